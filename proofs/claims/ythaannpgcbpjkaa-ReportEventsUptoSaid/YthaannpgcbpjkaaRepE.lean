
/- Events as texts: the program's and the document's ways. -/
import Derived.Test.YthaannpgcbpjkaaF0
import Derived.Test.YthaannpgcbpjkaaF2
import Derived.Test.YthaannpgcbpjkaaF3
import Derived.Test.YthaannpgcbpjkaaF6
import Derived.Test.YthaannpgcbpjkaaRep
import Derived.Test.YthaannpgcbpjkaaLineF
namespace Go.Proofs.Ythaannpgcbpjkaa.Aev
open Go
set_option linter.unusedVariables false
set_option linter.unusedSimpArgs false
set_option maxRecDepth 100000
abbrev Rp : Type := D_api_Reply
/-- a reply that is not too great -/
def OkP (r : Rp) : Prop := (-9223372036854775808 ≤ r.1 ∧ r.1 ≤ 9223372036854775807) ∧ OkR r.2.1 ∧ bk (.sl (.sl T_api_Value)) r.2.1 ≤ 1048576
theorem elem_p {l : List Rp} {i : Nat} (h : i < l.length) : elem T_api_Reply l (i : Int) = l[i] := by
  simp [elem, List.getD, List.getElem?_eq_getElem h]
def lnL (xs : List ByteArray) : List UInt8 := report_lines.L xs
theorem lnL_app (a b : List ByteArray) : lnL (a ++ b) = lnL a ++ lnL b := by
  unfold lnL report_lines.L; rw [List.map_append, List.flatten_append]
theorem lnL_cons (a : ByteArray) (b : List ByteArray) : lnL (a :: b) = a.data.toList ++ [10] ++ lnL b := by
  unfold lnL report_lines.L; rw [List.map_cons, List.flatten_cons]
theorem lnL_one (s : ByteArray) : lnL [s] = s.data.toList ++ [10] := by simp [lnL, report_lines.L]
theorem lnL_count : ∀ (l : List ByteArray), l.length ≤ (lnL l).length
  | [] => by simp
  | x :: r => by have := lnL_count r; rw [lnL_cons]; simp; omega
theorem lines_eq (l : List ByteArray) (h0 : l ≠ []) (h : (lnL l).length ≤ 35184372088832) (k : Nat) : report_lines.f k l = some (mkW (lnL l)) := by
  have := lnL_count l
  unfold report_lines.f
  rw [if_pos ⟨h0, h, by omega⟩]
  rfl
/-! ### what is told -/
theorem told_same (b : Bool) {e : Int} (h0 : -9223372036854775808 ≤ e) (h1 : e ≤ 9223372036854775807) {rows : List (List V)} (hr : OkR rows) (hb : bk (.sl (.sl T_api_Value)) rows ≤ 1048576) (k : Nat) (hk : 8000000 ≤ k) :
    ∃ t, report_Told.f k b e rows = some t ∧ transomref42_Told.f k b e rows = some t := by
  have hl := repW_len h0 h1 hr hb
  have a := repp h0 h1 hr hb k hk
  have c := rtold h0 h1 hr hb k hk
  simp only [report_Told.f, report_Told.c, transomref42_Told.f, transomref42_Told.c]
  cases b with
  | false =>
    simp only [Bool.not_false, cond_true]
    have := lines_eq [ByteArray.mk (List.toArray [110, 111, 116, 32, 121, 101, 116])] (by simp) (by rw [lnL_one]; simp) k
    rw [this]
    exact ⟨_, rfl, rfl⟩
  | true =>
    have g : (jn (repW e rows)).length ≤ 4611686018427387903 := by omega
    have := lines_eq [mkW (jn (repW e rows))] (by simp) (by rw [lnL_one, ba_data, List.length_append]; simp; omega) k
    simp only [Bool.not_true, cond_false, a, c, this, Option.bind_some, ba_size, ba_append, g, decide_true, Bool.and_self, cond_true, lnL_one, ba_data]
    exact ⟨_, rfl, rfl⟩
/-- a text that is not too long -/
def Small (l : List UInt8) : Prop := l.length ≤ 2000000000
theorem small_left {a b : List UInt8} (h : Small (a ++ b)) : a.length ≤ 2000000000 := by
  unfold Small at h; rw [List.length_append] at h; omega
theorem small_lines {x y : List ByteArray} (h : Small (lnL (x ++ y))) : (lnL x).length ≤ 35184372088832 ∧ x.length ≤ 2000000000 := by
  rw [lnL_app] at h
  have h1 := small_left h
  have h2 := lnL_count x
  exact ⟨by omega, Nat.le_trans h2 h1⟩
/-! ### an event -/
noncomputable def opT (at' : Int) (o : Oq) : List UInt8 := if (txtP (linP (1, (at', (o, ()))))).2 = 0 then (txtP (linP (1, (at', (o, ()))))).1.data.toList else [63]
noncomputable def evL (at' : Int) : List Oq → List Rp → List ByteArray
  | [], _ => []
  | o :: os, [] => mkW ([32, 32] ++ opT at' o) :: evL at' os []
  | o :: os, r :: rs => mkW ([32, 32] ++ opT at' o) :: mkW (jn (repW r.1 r.2.1)) :: evL at' os rs
theorem mk_of (b : ByteArray) : mkW b.data.toList = b := (ba_of b).symm
section
variable (at' : Int) (ha : -9223372036854775808 ≤ at' ∧ at' ≤ 9223372036854775807)
include ha
theorem oks {o : Oq} (h : OkO o) : OkS (1, (at', (o, ()))) := { at' := ha, op := h }
theorem opT_len {o : Oq} (h : OkO o) : (opT at' o).length ≤ 400000 := by
  obtain ⟨b, h1, h2, h3⟩ := ref_line (1, (at', (o, ()))) (oks at' ha h) 900010 (by omega)
  unfold opT
  split
  · rw [Array.length_toList]; exact h3
  · simp
theorem opp {o : Oq} (h : OkO o) (k : Nat) (hk : 900010 ≤ k) : ∃ r, story_Line.f k (1, (at', (o, ()))) = some r ∧ report_or.f k r.1 r.2 = some (mkW (opT at' o)) := by
  refine ⟨_, line_eq _ (oks at' ha h) k hk, ?_⟩
  simp only [report_or.f, report_or.c, opT]
  by_cases c : (txtP (linP (1, (at', (o, ()))))).2 = 0
  · rw [ne_beq c, cond_false, if_pos c, mk_of]
  · rw [ne_bne c, cond_true, if_neg c]
theorem evL_len {ops : List Oq} (ho : ∀ o ∈ ops, OkO o) : ∀ (rs : List Rp), (∀ r ∈ rs, OkP r) → (lnL (evL at' ops rs)).length ≤ ops.length * 51000000 := by
  induction ops with
  | nil => intro rs _; simp [evL, lnL, report_lines.L]
  | cons o os ih =>
    intro rs hr
    have h1 := opT_len at' ha (ho o (by simp))
    have ih := ih (fun x hx => ho x (List.mem_cons_of_mem _ hx))
    cases rs with
    | nil =>
      have := ih [] (by simp)
      rw [evL, lnL_cons, List.length_append, List.length_append, ba_data, List.length_append, List.length_cons]
      simp only [List.length_cons, List.length_nil]
      omega
    | cons r rs =>
      have := ih rs (fun x hx => hr x (List.mem_cons_of_mem _ hx))
      obtain ⟨⟨a0, a1⟩, a2, a3⟩ := hr r (by simp)
      have h2 := repW_len a0 a1 a2 a3
      rw [evL, lnL_cons, lnL_cons, ba_data, ba_data]
      simp only [List.length_append, List.length_cons, List.length_nil]
      omega
theorem evp_s1 (ops : List Oq) (hl : ops.length ≤ 20) (ho : ∀ o ∈ ops, OkO o) (rs : List Rp) (hrl : rs.length ≤ 1000) (hr : ∀ r ∈ rs, OkP r) (a4 a5 a6 : Int) : ∀ (m i : Nat) (x : List ByteArray), i + m = ops.length → x ≠ [] → Small (lnL (x ++ evL at' (ops.drop i) (rs.drop i))) → ∀ k, 2 * m + 9000000 < k →
    report_Event.s1 k ops (ops.length : Int) (i : Int) at' a4 a5 a6 ops rs x = some (mkW (lnL (x ++ evL at' (ops.drop i) (rs.drop i)))) := by
  intro m
  induction m with
  | zero =>
    intro i x hi hx hxl k hk
    obtain ⟨k, rfl⟩ : ∃ q, k = q + 1 := ⟨k - 1, by omega⟩
    have e : ¬ (i : Int) < (ops.length : Int) := by omega
    rw [List.drop_eq_nil_of_le (by omega)] at hxl ⊢
    have := lines_eq x hx (small_lines hxl).1 k
    simp only [report_Event.s1, report_Event.s1c, e, decide_false, cond_false, this, Option.bind_some, evL, List.append_nil]
  | succ m ih =>
    intro i x hi hx hxl k hk
    obtain ⟨k, rfl⟩ : ∃ q, k = q + 2 := ⟨k - 2, by omega⟩
    have hlt : i < ops.length := by omega
    have e0 : (i : Int) < (ops.length : Int) := by omega
    have e1 : (0 : Int) ≤ (i : Int) := by omega
    have e2 : IntKind.wrap IntKind.i64 ((i : Int) + 1) = ((i + 1 : Nat) : Int) := by rw [i64w (by omega) (by omega)]; omega
    have hoi := ho ops[i] (List.getElem_mem _)
    obtain ⟨r, c1, c2⟩ := opp at' ha hoi (k + 1) (by omega)
    have hn := opT_len at' ha hoi
    have hc := (small_lines hxl).2
    have g1 : (opT at' ops[i]).length ≤ 4611686018427387903 := by omega
    have g2 : (x.length + 1) * 16 ≤ 35184372088832 := Nat.le_trans (Nat.mul_le_mul_right 16 (Nat.add_le_add_right hc 1)) (by decide)
    have g3' : (x.length + 1 + 1) * 16 ≤ 35184372088832 := Nat.le_trans (Nat.mul_le_mul_right 16 (Nat.add_le_add_right (Nat.add_le_add_right hc 1) 1)) (by decide)
    have g3 : ((x ++ [mkW ([32, 32] ++ opT at' ops[i])]).length + 1) * 16 ≤ 35184372088832 := by
      rw [List.length_append, List.length_singleton]; exact g3'
    have hk8 : 8000000 ≤ k + 1 := by omega
    have hS : ∀ y, report_Event.s2 (k + 1) ops (ops.length : Int) (i : Int) at' a4 a5 a6 ops rs y = report_Event.s1 k ops (ops.length : Int) ((i + 1 : Nat) : Int) at' a4 a5 a6 ops rs y := fun y => by
      simp only [report_Event.s2, report_Event.s2c, e2, Option.bind_fun_some]
    rw [List.drop_eq_getElem_cons hlt] at hxl ⊢
    by_cases hlr : i < rs.length
    · have e3 : (i : Int) < (rs.length : Int) := by omega
      have c3 : report_reply.f (k + 1) rs[i].1 rs[i].2.1 = some (mkW (jn (repW rs[i].1 rs[i].2.1))) := by
        have hr' := hr rs[i] (List.getElem_mem _)
        exact repp hr'.1.1 hr'.1.2 hr'.2.1 hr'.2.2 (k + 1) hk8
      rw [List.drop_eq_getElem_cons hlr, evL] at hxl ⊢
      have hd : x ++ mkW ([32, 32] ++ opT at' ops[i]) :: mkW (jn (repW rs[i].1 rs[i].2.1)) :: evL at' (ops.drop (i + 1)) (rs.drop (i + 1)) = (x ++ [mkW ([32, 32] ++ opT at' ops[i])] ++ [mkW (jn (repW rs[i].1 rs[i].2.1))]) ++ evL at' (ops.drop (i + 1)) (rs.drop (i + 1)) := by simp
      rw [hd] at hxl ⊢
      have := ih (i + 1) (x ++ [mkW ([32, 32] ++ opT at' ops[i])] ++ [mkW (jn (repW rs[i].1 rs[i].2.1))]) (by omega) (by simp) hxl k (by omega)
      simp only [report_Event.s1, report_Event.s1c, e0, e1, e3, elem_o hlt, elem_p hlr, c1, c2, c3, ba_size, ba_append, g1, g2, g3, decide_true, Bool.and_self, cond_true, Option.bind_some, Option.bind_fun_some, hS]
      exact this
    · have e3 : ¬ (i : Int) < (rs.length : Int) := by omega
      have hd0 : rs.drop i = [] := List.drop_eq_nil_of_le (by omega)
      have hd1 : rs.drop (i + 1) = [] := List.drop_eq_nil_of_le (by omega)
      rw [hd0, evL] at hxl ⊢
      have hd : x ++ mkW ([32, 32] ++ opT at' ops[i]) :: evL at' (ops.drop (i + 1)) [] = (x ++ [mkW ([32, 32] ++ opT at' ops[i])]) ++ evL at' (ops.drop (i + 1)) (rs.drop (i + 1)) := by rw [hd1]; simp
      rw [hd] at hxl ⊢
      have := ih (i + 1) (x ++ [mkW ([32, 32] ++ opT at' ops[i])]) (by omega) (by simp) hxl k (by omega)
      simp only [report_Event.s1, report_Event.s1c, e0, e1, e3, elem_o hlt, c1, c2, ba_size, ba_append, g1, g2, decide_true, decide_false, Bool.and_self, cond_true, cond_false, Option.bind_some, Option.bind_fun_some, hS]
      exact this
theorem rev_s1 (ops : List Oq) (hl : ops.length ≤ 20) (ho : ∀ o ∈ ops, OkO o) (rs : List Rp) (hrl : rs.length ≤ 1000) (hr : ∀ r ∈ rs, OkP r) (a4 a5 a6 : Int) : ∀ (m i : Nat) (x : List UInt8), i + m = ops.length → Small (x ++ lnL (evL at' (ops.drop i) (rs.drop i))) → ∀ k, 3 * m + 9000000 < k →
    transomref42_Event.s1 k (mkW x) (i : Int) at' a4 a5 a6 ops rs = some (mkW (x ++ lnL (evL at' (ops.drop i) (rs.drop i)))) := by
  intro m
  induction m with
  | zero =>
    intro i x hi hxl k hk
    obtain ⟨k, rfl⟩ : ∃ q, k = q + 1 := ⟨k - 1, by omega⟩
    have e : ¬ (i : Int) < (ops.length : Int) := by omega
    rw [List.drop_eq_nil_of_le (by omega)]
    simp only [transomref42_Event.s1, transomref42_Event.s1c, e, decide_false, cond_false, evL, lnL, report_lines.L, List.map_nil, List.flatten_nil, List.append_nil]
  | succ m ih =>
    intro i x hi hxl k hk
    obtain ⟨k, rfl⟩ : ∃ q, k = q + 3 := ⟨k - 3, by omega⟩
    have hlt : i < ops.length := by omega
    have e0 : (i : Int) < (ops.length : Int) := by omega
    have e1 : (0 : Int) ≤ (i : Int) := by omega
    have e2 : IntKind.wrap IntKind.i64 ((i : Int) + 1) = ((i + 1 : Nat) : Int) := by rw [i64w (by omega) (by omega)]; omega
    have hoi := ho ops[i] (List.getElem_mem _)
    obtain ⟨b, c1, c2, c3⟩ := ref_line (1, (at', (ops[i], ()))) (oks at' ha hoi) (k + 2) (by omega)
    have hn := opT_len at' ha hoi
    have hS2 : transomref42_Event.s1 (k + 3) (mkW x) (i : Int) at' a4 a5 a6 ops rs = transomref42_Event.s2 (k + 2) (mkW x) (i : Int) (mkW (opT at' ops[i])) at' a4 a5 a6 ops rs := by
      simp only [transomref42_Event.s1, transomref42_Event.s1c, e0, e1, elem_o hlt, c1, decide_true, Bool.and_self, cond_true, Option.bind_some, Option.bind_fun_some]
      unfold opT
      by_cases c : (txtP (linP (1, (at', (ops[i], ()))))).2 = 0
      · rw [ne_beq c, cond_false, if_pos c, mk_of, c2 c]
      · rw [ne_bne c, cond_true, if_neg c]
    have hS3 : ∀ y, transomref42_Event.s3 (k + 1) y (i : Int) at' a4 a5 a6 ops rs = transomref42_Event.s1 k y ((i + 1 : Nat) : Int) at' a4 a5 a6 ops rs := fun y => by
      simp only [transomref42_Event.s3, transomref42_Event.s3c, e2, Option.bind_fun_some]
    have hxl1 := small_left hxl
    have g0 : x.length ≤ 4611686018427387903 := by omega
    have g1 : (x ++ [32, 32]).length ≤ 4611686018427387903 := by simp; omega
    have g2 : (opT at' ops[i]).length ≤ 4611686018427387903 := by omega
    have g3 : (x ++ [32, 32] ++ opT at' ops[i]).length ≤ 4611686018427387903 := by simp; omega
    rw [hS2, List.drop_eq_getElem_cons hlt]
    rw [List.drop_eq_getElem_cons hlt] at hxl
    by_cases hlr : i < rs.length
    · have e3 : (i : Int) < (rs.length : Int) := by omega
      have c4 : transomref42_told.f (k + 1) rs[i].1 rs[i].2.1 = some (mkW (jn (repW rs[i].1 rs[i].2.1))) := by
        have hr' := hr rs[i] (List.getElem_mem _)
        exact rtold hr'.1.1 hr'.1.2 hr'.2.1 hr'.2.2 (k + 1) (by omega)
      have hn2 : (jn (repW rs[i].1 rs[i].2.1)).length ≤ 50000000 := by
        have hr' := hr rs[i] (List.getElem_mem _)
        exact repW_len hr'.1.1 hr'.1.2 hr'.2.1 hr'.2.2
      have g4 : (x ++ [32, 32] ++ opT at' ops[i] ++ [10]).length ≤ 4611686018427387903 := by simp; omega
      have g5 : (jn (repW rs[i].1 rs[i].2.1)).length ≤ 4611686018427387903 := by omega
      have g6 : (x ++ [32, 32] ++ opT at' ops[i] ++ [10] ++ jn (repW rs[i].1 rs[i].2.1)).length ≤ 4611686018427387903 := by simp; omega
      rw [List.drop_eq_getElem_cons hlr, evL] at hxl ⊢
      have hd : x ++ lnL (mkW ([32, 32] ++ opT at' ops[i]) :: mkW (jn (repW rs[i].1 rs[i].2.1)) :: evL at' (ops.drop (i + 1)) (rs.drop (i + 1))) = (x ++ [32, 32] ++ opT at' ops[i] ++ [10] ++ jn (repW rs[i].1 rs[i].2.1) ++ [10]) ++ lnL (evL at' (ops.drop (i + 1)) (rs.drop (i + 1))) := by
        rw [lnL_cons, lnL_cons, ba_data, ba_data]; simp only [List.append_assoc]
      rw [hd] at hxl ⊢
      have := ih (i + 1) (x ++ [32, 32] ++ opT at' ops[i] ++ [10] ++ jn (repW rs[i].1 rs[i].2.1) ++ [10]) (by omega) hxl k (by omega)
      simp only [transomref42_Event.s2, transomref42_Event.s2c, e0, e1, e3, elem_p hlr, c4, ba_size, ba_append, g0, g1, g2, g3, g4, g5, g6, decide_true, Bool.and_self, cond_true, Option.bind_some, Option.bind_fun_some, hS3]
      exact this
    · have e3 : ¬ (i : Int) < (rs.length : Int) := by omega
      have hd0 : rs.drop i = [] := List.drop_eq_nil_of_le (by omega)
      have hd1 : rs.drop (i + 1) = [] := List.drop_eq_nil_of_le (by omega)
      rw [hd0, evL] at hxl ⊢
      have hd : x ++ lnL (mkW ([32, 32] ++ opT at' ops[i]) :: evL at' (ops.drop (i + 1)) []) = (x ++ [32, 32] ++ opT at' ops[i] ++ [10]) ++ lnL (evL at' (ops.drop (i + 1)) (rs.drop (i + 1))) := by
        rw [hd1, lnL_cons, ba_data]; simp only [List.append_assoc]
      rw [hd] at hxl ⊢
      have := ih (i + 1) (x ++ [32, 32] ++ opT at' ops[i] ++ [10]) (by omega) hxl k (by omega)
      simp only [transomref42_Event.s2, transomref42_Event.s2c, e0, e1, e3, ba_size, ba_append, g0, g1, g2, g3, decide_true, decide_false, Bool.and_self, cond_true, cond_false, Option.bind_some, Option.bind_fun_some, hS3]
      exact this
end
abbrev wEvent : List UInt8 := [101, 118, 101, 110, 116]
def hdT (a0 a1 a2 a3 : Int) : List UInt8 := wEvent ++ ([32] ++ digL a0) ++ ([32] ++ digL a1) ++ ([32] ++ digL a2) ++ ([32] ++ digL a3)
def I64 (a : Int) : Prop := -9223372036854775808 ≤ a ∧ a ≤ 9223372036854775807
theorem event_same {a0 a1 a2 a3 : Int} (h0 : I64 a0) (h1 : I64 a1) (h2 : I64 a2) (h3 : I64 a3) {ops : List Oq} (hl : ops.length ≤ 20) (ho : ∀ o ∈ ops, OkO o) {rs : List Rp} (hrl : rs.length ≤ 1000) (hr : ∀ r ∈ rs, OkP r) (k : Nat) (hk : 9100000 ≤ k) :
    ∃ t, report_Event.f k a0 a1 a2 a3 ops rs = some t ∧ transomref42_Event.f k a0 a1 a2 a3 ops rs = some t := by
  obtain ⟨k, rfl⟩ : ∃ q, k = q + 5 := ⟨k - 5, by omega⟩
  have d0 := fun k hk => digits_eq a0 h0.1 h0.2 k hk
  have d1 := fun k hk => digits_eq a1 h1.1 h1.2 k hk
  have d2 := fun k hk => digits_eq a2 h2.1 h2.2 k hk
  have d3 := fun k hk => digits_eq a3 h3.1 h3.2 k hk
  have r0 := fun k hk => refdigits_eq a0 h0.1 h0.2 k hk
  have r1 := fun k hk => refdigits_eq a1 h1.1 h1.2 k hk
  have r2 := fun k hk => refdigits_eq a2 h2.1 h2.2 k hk
  have r3 := fun k hk => refdigits_eq a3 h3.1 h3.2 k hk
  have l0 := (digL_len a0 h0.1 h0.2).1
  have l1 := (digL_len a1 h1.1 h1.2).1
  have l2 := (digL_len a2 h2.1 h2.2).1
  have l3 := (digL_len a3 h3.1 h3.2).1
  have P0 : ∀ (k : Nat) (x : List UInt8) (i : Nat) (a : Int) (hi : i < 4), x.length ≤ 1000 → (bif (decide ((i : Int) = (0 : Int))) then a0 else (bif (decide ((i : Int) = (1 : Int))) then a1 else (bif (decide ((i : Int) = (2 : Int))) then a2 else a3))) = a → (digL a).length ≤ 20 → convert_Digits.f k a = some (mkW (digL a)) →
      report_Event.s0 (k + 1) (mkW x) a0 a1 a2 a3 (i : Int) a0 a1 a2 a3 ops rs = report_Event.s0 k (mkW (x ++ ([32] ++ digL a))) a0 a1 a2 a3 ((i + 1 : Nat) : Int) a0 a1 a2 a3 ops rs := by
    intro k x i a hi hx ha hl hd
    have e0 : (i : Int) < 4 := by omega
    have e1 : (0 : Int) ≤ (i : Int) := by omega
    have e2 : IntKind.wrap IntKind.i64 ((i : Int) + 1) = ((i + 1 : Nat) : Int) := by rw [i64w (by omega) (by omega)]; omega
    have g1 : (digL a).length ≤ 4611686018427387903 := by omega
    have g2 : x.length ≤ 4611686018427387903 := by omega
    have g3 : ([32] ++ digL a).length ≤ 4611686018427387903 := by simp; omega
    simp only [report_Event.s0, report_Event.s0c, e0, e1, e2, ha, hd, ba_size, ba_append, g1, g2, g3, decide_true, Bool.and_self, cond_true, Option.bind_some, Option.bind_fun_some]
  have R0 : ∀ (k : Nat) (x : List UInt8) (i : Nat) (a : Int) (hi : i < 4), x.length ≤ 1000 → elem (Ty.int IntKind.i64) [a0, a1, a2, a3] (i : Int) = a → (digL a).length ≤ 20 → transomref07_Digits.f k a = some (mkW (digL a)) →
      transomref42_Event.s0 (k + 1) (mkW x) (i : Int) a0 a1 a2 a3 ops rs [a0, a1, a2, a3] = transomref42_Event.s0 k (mkW (x ++ ([32] ++ digL a))) ((i + 1 : Nat) : Int) a0 a1 a2 a3 ops rs [a0, a1, a2, a3] := by
    intro k x i a hi hx ha hl hd
    have e0 : (i : Int) < 4 := by omega
    have e1 : (0 : Int) ≤ (i : Int) := by omega
    have e2 : IntKind.wrap IntKind.i64 ((i : Int) + 1) = ((i + 1 : Nat) : Int) := by rw [i64w (by omega) (by omega)]; omega
    have g1 : (digL a).length ≤ 4611686018427387903 := by omega
    have g2 : x.length ≤ 4611686018427387903 := by omega
    have g3 : (x ++ [32]).length ≤ 4611686018427387903 := by simp; omega
    simp only [transomref42_Event.s0, transomref42_Event.s0c, e0, e1, e2, ha, hd, ba_size, ba_append, g1, g2, g3, decide_true, Bool.and_self, cond_true, Option.bind_some, Option.bind_fun_some, List.append_assoc]
  have hh : (hdT a0 a1 a2 a3).length ≤ 200 := by unfold hdT; simp only [List.length_append, List.length_cons, List.length_nil]; omega
  have gh : (hdT a0 a1 a2 a3).length ≤ 4611686018427387903 := by omega
  have hE := evL_len a0 h0 ho rs hr
  have hE2 : (lnL (evL a0 ops rs)).length ≤ 1020000000 := Nat.le_trans hE (Nat.mul_le_mul_right 51000000 hl)
  have hB : Small (hdT a0 a1 a2 a3 ++ [10] ++ lnL (evL a0 (ops.drop 0) (rs.drop 0))) := by
    unfold Small; rw [List.drop_zero, List.drop_zero, List.length_append, List.length_append, List.length_singleton]
    exact Nat.le_trans (Nat.add_le_add (Nat.add_le_add_right hh 1) hE2) (by omega)
  have hA : Small (lnL ([mkW (hdT a0 a1 a2 a3)] ++ evL a0 (ops.drop 0) (rs.drop 0))) := by
    rw [List.singleton_append, lnL_cons, ba_data]; exact hB
  clear hE hE2
  have A := evp_s1 a0 h0 ops hl ho rs hrl hr a1 a2 a3 ops.length 0 [mkW (hdT a0 a1 a2 a3)] (by omega) (by simp) hA k (by omega)
  have B := rev_s1 a0 h0 ops hl ho rs hrl hr a1 a2 a3 ops.length 0 (hdT a0 a1 a2 a3 ++ [10]) (by omega) hB k (by omega)
  refine ⟨mkW (hdT a0 a1 a2 a3 ++ [10] ++ lnL (evL a0 ops rs)), ?_, ?_⟩
  · simp only [report_Event.f, report_Event.c, Option.bind_fun_some]
    refine (P0 (k + 4) wEvent 0 a0 (by omega) (by simp) rfl l0 (d0 _ (by omega))).trans ?_
    refine (P0 (k + 3) _ 1 a1 (by omega) (by simp; omega) rfl l1 (d1 _ (by omega))).trans ?_
    refine (P0 (k + 2) _ 2 a2 (by omega) (by simp; omega) rfl l2 (d2 _ (by omega))).trans ?_
    refine (P0 (k + 1) _ 3 a3 (by omega) (by simp; omega) rfl l3 (d3 _ (by omega))).trans ?_
    have e : ¬ (((3 + 1 : Nat) : Int) < 4) := by omega
    simp only [report_Event.s0, report_Event.s0c, e, decide_false, cond_false, Option.bind_fun_some]
    refine Eq.trans A ?_
    rw [List.drop_zero, List.drop_zero, List.singleton_append, lnL_cons, ba_data]
  · simp only [transomref42_Event.f, transomref42_Event.c, Option.bind_fun_some]
    refine (R0 (k + 4) wEvent 0 a0 (by omega) (by simp) rfl l0 (r0 _ (by omega))).trans ?_
    refine (R0 (k + 3) _ 1 a1 (by omega) (by simp; omega) rfl l1 (r1 _ (by omega))).trans ?_
    refine (R0 (k + 2) _ 2 a2 (by omega) (by simp; omega) rfl l2 (r2 _ (by omega))).trans ?_
    refine (R0 (k + 1) _ 3 a3 (by omega) (by simp; omega) rfl l3 (r3 _ (by omega))).trans ?_
    have e : ¬ (((3 + 1 : Nat) : Int) < 4) := by omega
    have gh' : (wEvent ++ ([32] ++ digL a0) ++ ([32] ++ digL a1) ++ ([32] ++ digL a2) ++ ([32] ++ digL a3)).length ≤ 4611686018427387903 := gh
    simp only [transomref42_Event.s0, transomref42_Event.s0c, e, decide_false, cond_false, Option.bind_fun_some, ba_size, gh', ba_append, decide_true, Bool.and_self, cond_true]
    refine Eq.trans B ?_
    rw [List.drop_zero, List.drop_zero]
end Go.Proofs.Ythaannpgcbpjkaa.Aev
