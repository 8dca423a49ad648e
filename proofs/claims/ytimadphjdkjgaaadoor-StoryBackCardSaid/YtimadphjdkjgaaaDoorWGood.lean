import Derived.Test.YtimadphjdkjgaaaDoorWBack
import Derived.Test.YtimadphjdkjgaaaDoorLineS

/- The words of a step whose line has no error are words that a line is split into. -/
namespace Go.Proofs.YtimadphjdkjgaaaDoor.Aev
open Go
set_option linter.unusedVariables false
set_option linter.unusedSimpArgs false
set_option maxRecDepth 100000
def Gd (p : P2) : Prop := p.1 = 0 → ∀ w ∈ p.2, GW w.data.toList
theorem gd_sq {a b : P2} (ha : Gd a) (hb : Gd b) : Gd (sq a b) := by
 intro h w hw
 obtain ⟨h1, h2⟩ := sq_0.1 h
 rw [sq] at hw
 rcases List.mem_append.1 hw with hw | hw
 ·exact ha h1 w hw
 ·exact hb h2 w hw
theorem gd_one {w : ByteArray} (h : GW w.data.toList) : Gd (0, [w]) := fun _ x hx => by
 rw [List.mem_singleton.1 hx]; exact h
theorem gd_lit {w : ByteArray} (h0 : w.data.toList ≠ [] ∧ w.data.toList.length ≤ 400) (h : ∀ c ∈ w.data.toList, (¬ c = 32 ∧ ¬ c = 34) ∧ 32 ≤ c.toNat ∧ c.toNat ≤ 126) : Gd (0, [w]) := gd_one (gw_plain h0.1 h0.2 h)
theorem u8_ne {c d : UInt8} (h : c.toNat ≠ d.toNat) : ¬ c = d := fun e => h (by rw [e])
theorem ltr_ch (c : UInt8) (h : ltr (c.toNat : Int) = true) : 48 ≤ c.toNat ∧ c.toNat ≤ 122 := by
 unfold ltr at h
 simp only [Bool.and_eq_true, decide_eq_true_eq] at h
 omega
theorem dgt_ch (c : UInt8) (h : dgt (c.toNat : Int) = true) : 48 ≤ c.toNat ∧ c.toNat ≤ 122 := by
 unfold dgt at h
 simp only [Bool.or_eq_true, Bool.and_eq_true, decide_eq_true_eq] at h
 omega
theorem ok_ch {c : UInt8} (h : 48 ≤ c.toNat ∧ c.toNat ≤ 122) : (¬ c = 32 ∧ ¬ c = 34) ∧ 32 ≤ c.toNat ∧ c.toNat ≤ 126 :=
 ⟨⟨u8_ne (by show c.toNat ≠ 32; omega), u8_ne (by show c.toNat ≠ 34; omega)⟩, by omega, by omega⟩
theorem nmr_ch : ∀ (l : List UInt8), nmr l = 0 → ∀ c ∈ l, (¬ c = 32 ∧ ¬ c = 34) ∧ 32 ≤ c.toNat ∧ c.toNat ≤ 126
 | [], _, c, hc => by cases hc
 | d :: l, h, c, hc => by
  simp only [nmr] at h
  split at h
  ·rename_i hd
   cases List.mem_cons.1 hc with
   | inl e =>
    subst e
    rw [Bool.or_eq_true] at hd
    exact ok_ch (hd.elim (ltr_ch _) (dgt_ch _))
   | inr e => exact nmr_ch l h c e
  ·cases h
theorem gw_name {l : List UInt8} (h : nameS l = 0) : GW l := by
 unfold nameS at h
 split at h
 ·cases h
 ·cases l with
  | nil => cases h
  | cons c l =>
   simp only at h
   split at h
   ·rename_i hc
    refine gw_plain (by simp) (by omega) fun d hd => ?_
    cases List.mem_cons.1 hd with
    | inl e => subst e; exact ok_ch (ltr_ch _ hc)
    | inr e => exact nmr_ch l h d e
   ·cases h
theorem gd_nm : ∀ l : List ByteArray, Gd (nmP l)
 | [] => fun _ w hw => by cases hw
 | s :: l => gd_sq (fun h x hx => by rw [List.mem_singleton.1 hx]; exact gw_name h) (gd_nm l)
theorem gd_num (n : Int) : Gd (numP n) := fun hn0 x hx => by
  rw [numP, List.mem_singleton] at hx
  rw [hx, ba_data]
  refine gw_plain ?_ ?_ fun c hc => ?_
  ·obtain ⟨c, t, e, _⟩ := digL_head n; rw [e]; simp
  ·have h : (numP n).1 = 0 := hn0
   have hr : 0 ≤ n ∧ n ≤ 1000 := by
    unfold numP at h
    simp only at h
    split at h
    ·cases h
    ·omega
   have := (digL_len n (by omega) (by omega)).1
   omega
  ·rcases digL_ch n c hc with rfl | h
   ·decide
   ·exact ok_ch (by omega)
theorem gd_kd (a : Int) : Gd (kdP a) := fun h x hx => by
 unfold kdP at h hx
 simp only at h hx
 rw [List.mem_singleton] at hx
 rw [hx, ba_data]
 have hr : 1 ≤ a ∧ a ≤ 5 := by
  split at h
  ·cases h
  ·omega
 obtain ⟨h1, h2⟩ := hr
 rcases (show a = 1 ∨ a = 2 ∨ a = 3 ∨ a = 4 ∨ a = 5 by omega) with rfl | rfl | rfl | rfl | rfl <;> exact gw_plain (by decide) (by decide) (by decide)
theorem shw_T {v : V} (h : (shw v).2 = 0) : (shw v).1 = showT v.1 v.2.1 v.2.2.1.toNat v.2.2.2.1.data.toList := by
 unfold shw showL at h ⊢
 split
 ·rfl
 ·rename_i c
  rw [if_neg c] at h
  exact absurd h c
theorem gd_v {v : V} (hv : OkV v) : Gd (vP v) := fun h x hx => by
 have h : (shw v).2 = 0 := h
 rw [vP, List.mem_singleton] at hx
 rw [hx, ba_data, shw_T h]
 obtain ⟨h1, _⟩ := show_word v.1 v.2.1 v.2.2.1.toNat v.2.2.2.1.data.toList []
 refine ⟨h1, fun r ws => (show_word v.1 v.2.1 v.2.2.1.toNat v.2.2.2.1.data.toList ws).2 r, show_seen _ _ _ _, ?_⟩
 have hc : checkS v.1 v.2.1 v.2.2.1.toNat (mkW v.2.2.2.1.data.toList) = 0 := by
  unfold shw showL at h
  split at h
  ·rename_i c; exact c
  ·exact h
 have h64 := (check_0.1 hc).2.2.2.2.1
 rw [ba_size] at h64
 have := show_len v.1 v.2.1 hv.2.2.1 hv.2.2.2 v.2.2.1.toNat v.2.2.2.1.data.toList
 omega
theorem gd_vl : ∀ l : List V, (∀ v ∈ l, OkV v) → Gd (vsL l)
 | [], _ => fun _ w hw => by cases hw
 | v :: l, h => gd_sq (gd_v (h v (by simp))) (gd_vl l fun x hx => h x (List.mem_cons_of_mem _ hx))
theorem gd_two : Gd ((2, []) : P2) := fun h => by cases h
theorem gd_vs {l : List V} (h : ∀ v ∈ l, OkV v) : Gd (vsP l) := by
 unfold vsP; split
 ·exact gd_two
 ·exact gd_vl l h
theorem gd_null (b : Bool) : Gd (0, [nullW b]) := by cases b <;> exact gd_lit (by decide) (by decide)
theorem gd_col {c : C} (h : OkV c.2.2.2.1) : Gd (colP c) := gd_sq (gd_nm _) (gd_sq (gd_kd _) (gd_sq (gd_null _) (gd_v h)))
theorem gd_colsL : ∀ l : List C, (∀ x ∈ l, OkV x.2.2.2.1) → Gd (colsL l)
 | [], _ => fun _ w hw => by cases hw
 | c :: l, h => gd_sq (gd_col (h c (by simp))) (gd_colsL l fun x hx => h x (List.mem_cons_of_mem _ hx))
theorem gd_cols {l : List C} (h : ∀ x ∈ l, OkV x.2.2.2.1) : Gd (colsP l) := by
 unfold colsP; split
 ·exact gd_two
 ·exact gd_colsL l h
theorem gd_ch {c : Ch} (h : OkCh c) : Gd (chP c) := by
 unfold chP
 split
 ·exact gd_sq (gd_lit (by decide) (by decide)) (gd_sq (gd_nm _) (gd_sq (gd_num _) (gd_cols h.cols)))
 ·split
  ·exact gd_sq (gd_lit (by decide) (by decide)) (gd_sq (gd_nm _) (gd_col h.col))
  ·split
   ·exact gd_sq (gd_lit (by decide) (by decide)) (gd_nm _)
   ·split
    ·exact gd_sq (gd_lit (by decide) (by decide)) (gd_sq (gd_nm _) (gd_kd _))
    ·split
     ·refine gd_sq (gd_lit (by decide) (by decide)) (gd_sq (gd_nm _) ?_)
      split
      ·exact gd_two
      ·exact gd_nm _
     ·split
      ·exact gd_sq (gd_lit (by decide) (by decide)) (gd_nm _)
      ·exact fun h => by cases h
theorem gd_verb {a : Int} {w : ByteArray} (h : verbW a = some w) : Gd (0, [w]) := by
 unfold verbW at h
 (repeat' split at h) <;> first | (cases h; done) | (obtain rfl := Option.some.inj h; exact gd_lit (by decide) (by decide))
theorem gd_op {o : Oq} (h : OkO o) : Gd (opP o) := by
 unfold opP
 split
 ·exact gd_sq (gd_lit (by decide) (by decide)) (gd_sq (gd_nm _) (gd_sq (gd_num _) (gd_sq (gd_vs h.lo) (gd_sq (gd_lit (by decide) (by decide)) (gd_vs h.hi)))))
 ·split
  ·exact gd_sq (gd_lit (by decide) (by decide)) (gd_ch h.ch)
  ·cases hv : verbW o.1 with
   | none => exact fun h => by cases h
   | some w =>
    simp only
    split
    ·exact gd_sq (gd_verb hv) (gd_sq (gd_nm _) (gd_vs h.row))
    ·exact gd_verb hv
theorem gd_plain {a : Int} {w : ByteArray} (h : plainW a = some w) : Gd (0, [w]) := by
 unfold plainW at h
 (repeat' split at h) <;> first | (cases h; done) | (obtain rfl := Option.some.inj h; exact gd_lit (by decide) (by decide))
theorem gd_lin {s : Sp} (h : OkS s) : Gd (linP s) := by
 unfold linP
 cases hv : plainW s.1 with
 | some w => exact gd_plain hv
 | none =>
  simp only
  split
  ·exact gd_sq (gd_lit (by decide) (by decide)) (gd_sq (gd_num _) (gd_op h.op))
  ·split
   ·exact gd_sq (gd_lit (by decide) (by decide)) (gd_num _)
   ·exact fun h => by cases h
theorem split_lin {s : Sp} (hs : OkS s) (h : (linP s).1 = 0) : splitL (jn (linP s).2) = ((linP s).2.map (·.data.toList), 0) := splitL_jn (gd_lin hs h)
/-! ### how long a line is -/
theorem colsP_len (l : List C) : (colsP l).2.length ≤ 32 := by
 have h : ∀ l : List C, (colsL l).2.length = 4 * l.length := by
  intro l
  induction l with
  | nil => rfl
  | cons c l ih =>
   show ((colP c).2 ++ (colsL l).2).length = _
   rw [List.length_append, colP_len, ih, List.length_cons]; omega
 unfold colsP
 split
 ·simp
 ·rw [h]; omega
theorem ch_count (c : Ch) : (chP c).2.length ≤ 40 := by
 have h1 := colsP_len c.2.2.2.2.2.2.2.2.2.1.2.2.1
 have h2 := colP_len c.2.2.2.2.2.2.2.2.1
 unfold chP
 (repeat' split) <;> simp only [sq, List.length_append, List.length_cons, List.length_nil, nmP_len, numP, kdP, h2] <;> omega
theorem op_count (o : Oq) : (opP o).2.length ≤ 44 := by
 have h1 := vsP_len o.2.2.1
 have h2 := vsP_len o.2.2.2.1
 have h3 := vsP_len o.2.2.2.2.1
 have h4 := ch_count o.2.2.2.2.2.2.1
 unfold opP
 split
 ·simp only [sq, List.length_append, List.length_cons, List.length_nil, nmP_len, numP]; omega
 ·split
  ·simp only [sq, List.length_append, List.length_cons, List.length_nil]; omega
  ·cases verbW o.1 with
   | none => simp
   | some w =>
    simp only
    split
    ·simp only [sq, List.length_append, List.length_cons, List.length_nil, nmP_len]; omega
    ·simp
theorem lin_count (s : Sp) : (linP s).2.length ≤ 48 := by
 have h := op_count s.2.2.1
 unfold linP
 cases plainW s.1 with
 | some w => simp
 | none =>
  simp only
  split
  ·simp only [sq, List.length_append, List.length_cons, List.length_nil, numP]; omega
  ·split
   ·simp [sq, numP]
   ·simp
theorem jn_le : ∀ ws : List ByteArray, (∀ w ∈ ws, w.data.toList.length ≤ 400) → (jn ws).length ≤ 401 * ws.length
 | [], _ => by simp [jn]
 | w :: ws, h => by
  have hb : ∀ r : List ByteArray, (∀ w ∈ r, w.data.toList.length ≤ 400) → (jb r).length ≤ 401 * r.length := by
   intro r
   induction r with
   | nil => intro _; simp [jb]
   | cons x r ih =>
    intro h
    have := ih fun w hw => h w (List.mem_cons_of_mem _ hw)
    have h0 := h x (by simp)
    rw [jb_cons, List.length_cons, List.length_append, List.length_cons]; omega
  have := hb ws fun w hw => h w (List.mem_cons_of_mem _ hw)
  have h0 := h w (by simp)
  rw [jn, List.length_append, List.length_cons]; omega
theorem line_len {s : Sp} (hs : OkS s) (h : (linP s).1 = 0) : (jn (linP s).2).length ≤ 400000 := by
 have := jn_le (linP s).2 fun w hw => (gd_lin hs h w hw).2.2.2
 have := lin_count s
 omega
end Go.Proofs.YtimadphjdkjgaaaDoor.Aev
