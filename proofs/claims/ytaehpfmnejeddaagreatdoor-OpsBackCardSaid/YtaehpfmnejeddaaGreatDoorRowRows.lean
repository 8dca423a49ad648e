import Derived.Test.YtaehpfmnejeddaaGreatDoorF5
import Derived.Test.YtaehpfmnejeddaaGreatDoorF12
import Derived.Test.YtaehpfmnejeddaaGreatDoorRowRead

/- Rows read: whole rows; what is written is read, what is read was written so. -/
namespace Go.Proofs.YtaehpfmnejeddaaGreatDoor.Aev
open Go
set_option linter.unusedVariables false
set_option linter.unusedSimpArgs false
set_option maxRecDepth 100000
def vOf (q : RR) : V := (q.1, q.2.1, (q.2.2.1 : Int), mkB q.2.2.2.1, ())
theorem rdT_len (t : List UInt8) : (rdT t).2.1.length ≤ t.length := by
 have := rdL_len t 0 0
 unfold rdT
 split
 ·simp
 ·split
  ·simp
  ·simp only [List.length_drop]; omega
theorem rdI_len (t : List UInt8) : (rdI t).2.1.length ≤ t.length := by
 have := rdL_len t 0 0
 unfold rdI
 split
 ·simp
 ·exact this
theorem rraw_len (c : Int) (t : List UInt8) : (rraw c t).2.2.2.1.length ≤ t.length := by
 unfold rraw
 split
 ·exact Nat.le_refl _
 ·split
  ·cases t with
   | nil => exact Nat.le_refl _
   | cons d r => simp
  ·split
   ·exact rdI_len t
   ·split
    ·split
     ·simp
     ·simp
    ·split
     ·exact rdT_len t
     ·exact Nat.le_refl _
theorem rread_len (l : List UInt8) : (rread l).2.2.2.2.1.length ≤ l.length := by
 cases l with
 | nil => exact Nat.le_refl _
 | cons c t => have := rraw_len c.toNat t; simp only [rread, List.length_cons]; omega
noncomputable def rdRow : Nat → List UInt8 → List V → List V × Int
 | 0, l, acc => if l = [] then (acc, 0) else ([], 4)
 | m + 1, l, acc => if (rread l).2.2.2.2.2 = 0 then rdRow m (rread l).2.2.2.2.1 (acc ++ [vOf (rread l)]) else ([], (rread l).2.2.2.2.2)
theorem pRead_s0 (n : Nat) (hn : n ≤ 8) : ∀ (m i : Nat) (l : List UInt8) (acc : List V), i + m = n → acc.length = i → l.length ≤ 1000000000 → ∀ k, m + 400 < k →
  rows_Read.s0 k (n : Int) (i : Int) (mkB l) 0 acc = some (rdRow m l acc) := by
 intro m
 induction m with
 | zero =>
  intro i l acc hi ha hl k hk
  obtain ⟨k, rfl⟩ : ∃ j, k = j + 1 := ⟨k - 1, by omega⟩
  have e : ¬ (i : Int) < (n : Int) := by omega
  simp only [rows_Read.s0, rows_Read.s0c, e, decide_false, cond_false, ba_toList, rdRow]
  cases l with
  | nil => rfl
  | cons c t => rfl
 | succ m ih =>
  intro i l acc hi ha hl k hk
  obtain ⟨k, rfl⟩ : ∃ j, k = j + 1 := ⟨k - 1, by omega⟩
  have e : (i : Int) < (n : Int) := by omega
  have e2 : IntKind.wrap IntKind.i64 ((i : Int) + 1) = ((i + 1 : Nat) : Int) := by rw [i64w (by omega) (by omega)]; omega
  have e3 : (acc.length + 1) * 40 ≤ 35184372088832 := by omega
  obtain ⟨r, h1, h2⟩ := pval_eq l hl k (by omega)
  simp only [rows_Read.s0, rows_Read.s0c, e, e2, e3, h1, decide_true, cond_true, Option.bind_some, Option.bind_fun_some, renc, rdRow]
  by_cases h : (rread l).2.2.2.2.2 = 0
  ·have hlen := rread_len l
   rw [h2 h] 
   have := ih (i + 1) (rread l).2.2.2.2.1 (acc ++ [vOf (rread l)]) (by omega) (by simp; omega) (by omega) k (by omega)
   rw [h, if_pos rfl]
   exact this
  ·rw [if_neg h, bne_iff_ne.2 h]; rfl
noncomputable def readRow (l : List UInt8) : List V × Int :=
 if (rdL l 0 0).2.2 ≠ 0 then ([], (rdL l 0 0).2.2) else if 8 < (rdL l 0 0).1 then ([], 2) else rdRow (rdL l 0 0).1 (rdL l 0 0).2.1 []
theorem rowsRead_eq (l : List UInt8) (hl : l.length ≤ 1000000000) (k : Nat) (hk : 500 ≤ k) : rows_Read.f k (mkB l) = some (readRow l) := by
 have hln := rdL_len l 0 0
 simp only [rows_Read.f, rows_Read.c, readuint_f l (by omega) k (by omega), rd3, Option.bind_some, Option.bind_fun_some, readRow]
 by_cases h : (rdL l 0 0).2.2 = 0
 ·rw [if_neg (by simpa using h), h]
  by_cases h8 : 8 < (rdL l 0 0).1
  ·have : ((rdL l 0 0).1 : Int) > 8 := by omega
   simp only [this, h8, decide_true, cond_true, if_true]; rfl
  ·have e : ¬ ((rdL l 0 0).1 : Int) > 8 := by omega
   have e2 : IntKind.wrap IntKind.i64 ((rdL l 0 0).1 : Int) = ((rdL l 0 0).1 : Int) := i64w (by omega) (by omega)
   have := pRead_s0 (rdL l 0 0).1 (by omega) (rdL l 0 0).1 0 (rdL l 0 0).2.1 [] (by omega) rfl (by omega) k (by omega)
   simp only [e, e2, h8, decide_false, cond_false, if_false, bne_self_eq_false]
   exact this
 ·rw [if_pos h, bne_iff_ne.2 h]; rfl
/-! ### what is read was written so -/
theorem eight_numB {l : List UInt8} (h : l.length = 8) : (eightI (numB l)).map b8 = l := by
 match l, h with
 | [a, b, c, d, e, f, g, i], _ =>
  have := a.toNat_lt; have := b.toNat_lt; have := c.toNat_lt; have := d.toNat_lt
  have := e.toNat_lt; have := f.toNat_lt; have := g.toNat_lt; have := i.toNat_lt
  simp only [numB, List.foldl_cons, List.foldl_nil, eightI, List.map_cons, List.map_nil, List.cons.injEq, and_true]
  refine ⟨?_, ?_, ?_, ?_, ?_, ?_, ?_, ?_⟩ <;> (apply UInt8.toNat_inj.1; rw [b8_byteAt]; omega)
def okV (v : V) : Prop := (-9223372036854775808 ≤ v.2.1 ∧ v.2.1 ≤ 9223372036854775807) ∧ ∃ n : Nat, v.2.2.1 = (n : Int) ∧ n < 18446744073709551616
theorem failE_z {c e : Int} (h : failE c e = 0) : c = 0 ∧ e = 0 := by
 unfold failE at h
 split at h
 ·rename_i q; exact ⟨h, q⟩
 ·rename_i q; exact absurd h q
theorem b8_self (c : UInt8) : b8 ((c.toNat : Int) % 256) = c := by
 have := c.toNat_lt
 rw [show (c.toNat : Int) % 256 = (c.toNat : Int) by omega]; exact b8_eta c
theorem rread_once {l : List UInt8} (h : (rread l).2.2.2.2.2 = 0) : l = rb (vOf (rread l)) ++ (rread l).2.2.2.2.1 ∧ chk (vOf (rread l)) = 0 ∧ okV (vOf (rread l)) := by
 cases l with
 | nil => simp [rread] at h
 | cons c t =>
  have hc := c.toNat_lt
  obtain ⟨h1, h2⟩ := failE_z (show failE _ _ = 0 from h)
  have hchk : chk (vOf (rread (c :: t))) = 0 := h1
  have key : ∀ (a1 : Int) (n : Nat) (s r : List UInt8), rraw c.toNat t = (a1, n, s, r, 0) → (-9223372036854775808 ≤ a1 ∧ a1 ≤ 9223372036854775807) → n < 18446744073709551616 →
    t = (if (c.toNat : Int) = 1 then [b8 (a1 % 256)] else if (c.toNat : Int) = 2 then encL (zig a1) else if (c.toNat : Int) = 3 then (eightI n).map b8 else if (c.toNat : Int) = 4 ∨ (c.toNat : Int) = 5 then encL s.length ++ s else []) ++ r →
    c :: t = rb (vOf (rread (c :: t))) ++ (rread (c :: t)).2.2.2.2.1 ∧ okV (vOf (rread (c :: t))) := by
   intro a1 n s r e ha hn ht
   have q : rread (c :: t) = ((c.toNat : Int), a1, n, s, r, failE (checkS c.toNat a1 n (mkB s)) 0) := by simp only [rread, e]
   rw [q]
   refine ⟨?_, ha, n, rfl, hn⟩
   show c :: t = (b8 ((c.toNat : Int) % 256) :: _) ++ r
   rw [b8_self, List.cons_append]
   exact congrArg (c :: ·) ht
  suffices c :: t = rb (vOf (rread (c :: t))) ++ (rread (c :: t)).2.2.2.2.1 ∧ okV (vOf (rread (c :: t))) from ⟨this.1, hchk, this.2⟩
  by_cases c0 : (c.toNat : Int) = 0
  ·refine key 0 0 [] t (by simp only [rraw, c0, if_true]) (by omega) (by omega) ?_
   rw [c0]; rfl
  ·by_cases c1 : (c.toNat : Int) = 1
   ·cases t with
    | nil =>
     have e : rraw (c.toNat : Int) [] = (0, 0, [], [], 3) := by rw [c1]; rfl
     rw [e] at h2; simp at h2
    | cons d r =>
     have e : rraw (c.toNat : Int) (d :: r) = ((d.toNat : Int), 0, [], r, if 1 < d.toNat then 6 else 0) := by rw [c1]; rfl
     rw [e] at h2
     have hd := d.toNat_lt
     have hd1 : ¬ 1 < d.toNat := by intro q; simp [q] at h2
     refine key (d.toNat : Int) 0 [] r (by rw [e]; simp [hd1]) (by omega) (by omega) ?_
     rw [if_pos c1, b8_self]; rfl
   ·by_cases c2 : (c.toNat : Int) = 2
    ·have e : rraw c.toNat t = ((rdI t).1, 0, [], (rdI t).2.1, (rdI t).2.2) := by simp only [rraw, c2]; rfl
     rw [e] at h2
     have h2 : (rdI t).2.2 = 0 := h2
     have q : (rdL t 0 0).2.2 = 0 := by
      unfold rdI at h2
      by_cases c : (rdL t 0 0).2.2 = 0
      ·exact c
      ·rw [if_pos c] at h2; exact absurd h2 c
     have qe : rdI t = (unzig (rdL t 0 0).1, (rdL t 0 0).2.1, 0) := by unfold rdI; rw [if_neg (by simpa using q)]
     obtain ⟨k1, k2⟩ := rdL_once (l := t) (n := (rdL t 0 0).1) (r := (rdL t 0 0).2.1) (by rw [← q])
     refine key (unzig (rdL t 0 0).1) 0 [] (rdL t 0 0).2.1 (by rw [e, qe]) (unzig_in k1) (by omega) ?_
     rw [if_neg c1, if_pos c2, zig_unzig]; exact k2
    ·by_cases c3 : (c.toNat : Int) = 3
     ·have e : rraw c.toNat t = (if t.length < 8 then (0, 0, [], [], 3) else (0, numB (t.take 8), [], t.drop 8, 0)) := by simp only [rraw, c3]; rfl
      rw [e] at h2
      by_cases h8 : t.length < 8
      ·rw [if_pos h8] at h2; simp at h2
      ·refine key 0 (numB (t.take 8)) [] (t.drop 8) (by rw [e, if_neg h8]) (by omega) (numB8_lt t) ?_
       rw [if_neg c1, if_neg c2, if_pos c3, eight_numB (by simp; omega), List.take_append_drop]
     ·by_cases c4 : (c.toNat : Int) = 4 ∨ (c.toNat : Int) = 5
      ·have e : rraw c.toNat t = (0, 0, (rdT t).1, (rdT t).2.1, (rdT t).2.2) := by simp only [rraw, c0, c1, c2, c3, c4, if_true, if_false]
       rw [e] at h2
       have h2 : (rdT t).2.2 = 0 := h2
       have q : (rdL t 0 0).2.2 = 0 := by
        unfold rdT at h2
        by_cases c : (rdL t 0 0).2.2 = 0
        ·exact c
        ·rw [if_pos c] at h2; exact absurd h2 c
       have q2 : ¬ (rdL t 0 0).2.1.length < (rdL t 0 0).1 := by
        intro z
        unfold rdT at h2
        rw [if_neg (by simpa using q), if_pos z] at h2
        simp at h2
       have qe : rdT t = ((rdL t 0 0).2.1.take (rdL t 0 0).1, (rdL t 0 0).2.1.drop (rdL t 0 0).1, 0) := by unfold rdT; rw [if_neg (by simpa using q), if_neg q2]
       obtain ⟨k1, k2⟩ := rdL_once (l := t) (n := (rdL t 0 0).1) (r := (rdL t 0 0).2.1) (by rw [← q])
       refine key 0 0 ((rdL t 0 0).2.1.take (rdL t 0 0).1) ((rdL t 0 0).2.1.drop (rdL t 0 0).1) (by rw [e, qe]) (by omega) (by omega) ?_
       rw [if_neg c1, if_neg c2, if_neg c3, if_pos c4, List.length_take, Nat.min_eq_left (by omega), List.append_assoc, List.take_append_drop]; exact k2
      ·simp only [rraw, c0, c1, c2, c3, c4, if_false] at h2; simp at h2
theorem rdRow_once : ∀ (m : Nat) (l : List UInt8) (acc vs : List V), rdRow m l acc = (vs, 0) → ∃ ws, vs = acc ++ ws ∧ ws.length = m ∧ rrow ws = (l, 0) ∧ ∀ v ∈ ws, chk v = 0 ∧ okV v
 | 0, l, acc, vs, h => by
  simp only [rdRow] at h
  by_cases c : l = []
  ·subst c
   simp at h; subst h
   exact ⟨[], by simp, rfl, rfl, by simp⟩
  ·rw [if_neg c] at h; simp at h
 | m + 1, l, acc, vs, h => by
  simp only [rdRow] at h
  by_cases c : (rread l).2.2.2.2.2 = 0
  ·rw [if_pos c] at h
   obtain ⟨ws, h1, h2, h3, h4⟩ := rdRow_once m _ _ _ h
   obtain ⟨k1, k2, k3⟩ := rread_once c
   refine ⟨vOf (rread l) :: ws, by rw [h1, List.append_assoc]; rfl, by rw [List.length_cons, h2], ?_, ?_⟩
   ·simp only [rrow, h3, k2]
    simp only [ne_eq, not_true_eq_false, if_false]
    rw [← k1]
   ·intro v hv
    rcases List.mem_cons.1 hv with rfl | hv
    ·exact ⟨k2, k3⟩
    ·exact h4 v hv
  ·rw [if_neg c] at h; simp at h; exact absurd h.2 c
theorem chk_size {v : V} (h : chk v = 0) : v.2.2.2.1.size ≤ 64 := (check_0.1 h).2.2.2.2.1
theorem few_ok {ws : List V} (hl : ws.length ≤ 30) (h : ∀ v ∈ ws, chk v = 0 ∧ okV v) : FewW ws :=
 ⟨⟨hl, fun v hv => ⟨by have := chk_size (h v hv).1; omega, (h v hv).2.2⟩⟩, fun v hv => (h v hv).2.1⟩
theorem readRow_once {l : List UInt8} {vs : List V} (h : readRow l = (vs, 0)) : FewW vs ∧ vs.length ≤ 8 ∧ rowput vs = (mkB l, 0) := by
 unfold readRow at h
 by_cases c : (rdL l 0 0).2.2 = 0
 ·rw [if_neg (by simpa using c)] at h
  by_cases d : 8 < (rdL l 0 0).1
  ·rw [if_pos d] at h; simp at h
  ·rw [if_neg d] at h
   obtain ⟨ws, h1, h2, h3, h4⟩ := rdRow_once _ _ _ _ h
   rw [List.nil_append] at h1
   subst h1
   obtain ⟨k1, k2⟩ := rdL_once (l := l) (n := (rdL l 0 0).1) (r := (rdL l 0 0).2.1) (by rw [← c])
   refine ⟨few_ok (by omega) h4, by omega, ?_⟩
   unfold rowput
   rw [if_neg (by omega), h3, h2]
   unfold after
   rw [if_pos rfl]
   simp only
   rw [← k2]
 ·rw [if_pos c] at h; simp at h; exact absurd h.2 c
/-! ### what is written is read -/
theorem chk_raw {v : V} (h : chk v = 0) (hb : okV v) (r : List UInt8) : ∃ t, rb v = b8 (v.1 % 256) :: t ∧ (b8 (v.1 % 256)).toNat = v.1.toNat ∧ 0 ≤ v.1 ∧ rraw v.1 (t ++ r) = (v.2.1, v.2.2.1.toNat, v.2.2.2.1.data.toList, r, 0) := by
 obtain ⟨a0, a1, a2, s, ⟨⟩⟩ := v
 obtain ⟨⟨b0, b1⟩, n, hn, hn2⟩ := hb
 simp only at b0 b1 hn
 subst hn
 obtain ⟨⟨p0, p5⟩, ⟨f1, f2, f3⟩, pb, pc, ps, pu⟩ := check_0.1 h
 simp only [Int.toNat_natCast] at p0 p5 f1 f2 f3 pb pc ps pu
 rw [size_eq] at ps
 refine ⟨_, rfl, ?_, p0, ?_⟩
 ·simp only [b8, UInt8.toNat_ofNat']; omega
 ·simp only [Int.toNat_natCast]
  unfold rraw
  by_cases c0 : a0 = 0
  ·subst c0
   obtain rfl : a1 = 0 := by omega
   obtain rfl : n = 0 := by omega
   have : s.data.toList = [] := by rcases f3 with f | f; exact f; omega
   rw [this]; rfl
  ·by_cases c1 : a0 = 1
   ·subst c1
    obtain rfl : n = 0 := by omega
    have : s.data.toList = [] := by rcases f3 with f | f; exact f; omega
    rw [this]
    rcases pb rfl with rfl | rfl
    ·rfl
    ·rfl
   ·by_cases c2 : a0 = 2
    ·subst c2
     obtain rfl : n = 0 := by omega
     have : s.data.toList = [] := by rcases f3 with f | f; exact f; omega
     rw [this]
     have q := rdI_enc b0 b1 r
     simp only [show ¬ (2 : Int) = 0 by omega, show ¬ (2 : Int) = 1 by omega, if_true, if_false, q]
    ·have ha : a1 = 0 := by omega
     subst ha
     by_cases c3 : a0 = 3
     ·subst c3
      have : s.data.toList = [] := by rcases f3 with f | f; exact f; omega
      rw [this]
      have q8 : ¬ ((eightI n).map b8 ++ r).length < 8 := by rw [List.length_append, eight_len]; omega
      have qt : ((eightI n).map b8 ++ r).take 8 = (eightI n).map b8 := by rw [List.take_append_of_le_length (by rw [eight_len]; omega)]; exact List.take_of_length_le (by rw [eight_len]; omega)
      have qd : ((eightI n).map b8 ++ r).drop 8 = r := by rw [List.drop_append_of_le_length (by rw [eight_len]; omega), List.drop_eq_nil_of_le (by rw [eight_len]; omega)]; rfl
      simp only [show ¬ (3 : Int) = 0 by omega, show ¬ (3 : Int) = 1 by omega, show ¬ (3 : Int) = 2 by omega, if_true, if_false, q8, qt, qd, numB_eight hn2]
     ·obtain rfl : n = 0 := by omega
      have c4 : a0 = 4 ∨ a0 = 5 := by omega
      have q := rdT_enc (s := s.data.toList) (by omega) r
      simp only [c0, c1, c2, c3, c4, if_true, if_false, q]
theorem rread_enc {v : V} (h : chk v = 0) (hb : okV v) (r : List UInt8) : rread (rb v ++ r) = (v.1, v.2.1, v.2.2.1.toNat, v.2.2.2.1.data.toList, r, 0) := by
 obtain ⟨t, h1, h2, h3, h4⟩ := chk_raw h hb r
 rw [h1, List.cons_append]
 have e : (((b8 (v.1 % 256)).toNat : Nat) : Int) = v.1 := by rw [h2]; omega
 simp only [rread, e, h4]
 have : failE (checkS v.1 v.2.1 v.2.2.1.toNat (mkB v.2.2.2.1.data.toList)) 0 = chk v := rfl
 rw [this, h]
theorem vOf_enc {v : V} (hb : okV v) (r : List UInt8) : vOf (v.1, v.2.1, v.2.2.1.toNat, v.2.2.2.1.data.toList, r, 0) = v := by
 obtain ⟨a0, a1, a2, s, ⟨⟩⟩ := v
 obtain ⟨_, n, hn, _⟩ := hb
 simp only at hn
 subst hn
 rfl
theorem rdRow_enc : ∀ (l : List V) (b : List UInt8) (acc : List V), (∀ v ∈ l, okV v) → rrow l = (b, 0) → rdRow l.length b acc = (acc ++ l, 0)
 | [], b, acc, _, h => by
  simp only [rrow, Prod.mk.injEq, and_true] at h
  subst h
  simp [rdRow]
 | v :: l, b, acc, hb, h => by
  simp only [rrow] at h
  by_cases c : chk v = 0
  ·rw [if_neg (by simpa using c)] at h
   by_cases d : (rrow l).2 = 0
   ·rw [if_neg (by simpa using d)] at h
    simp only [Prod.mk.injEq, and_true] at h
    subst h
    have e := rread_enc c (hb v (by simp)) (rrow l).1
    rw [List.length_cons]
    simp only [rdRow, e, if_true]
    rw [vOf_enc (hb v (by simp)), rdRow_enc l (rrow l).1 (acc ++ [v]) (fun w hw => hb w (by simp [hw])) (by rw [← d]), List.append_assoc]; rfl
   ·rw [if_pos d] at h; simp at h; exact absurd h.2 d
  ·rw [if_pos c] at h; simp at h; exact absurd h.2 c
theorem few_okV {l : List V} (hl : FewW l) : ∀ v ∈ l, okV v := fun v hv => ⟨hl.2 v hv, (hl.1.2 v hv).2⟩
theorem readRow_back {l : List V} (hl : FewW l) (h : (rowput l).2 = 0) : readRow (rowput l).1.data.toList = (l, 0) := by
 unfold rowput at *
 by_cases c : 8 < l.length
 ·rw [if_pos c] at h; simp at h
 ·rw [if_neg c] at h ⊢
  unfold after at *
  by_cases d : (rrow l).2 = 0
  ·rw [if_pos d]
   simp only
   unfold readRow
   rw [rdL_enc (by omega) (rrow l).1]
   simp only [ne_eq, not_true_eq_false, if_false]
   rw [if_neg c, rdRow_enc l (rrow l).1 [] (few_okV hl) (by rw [← d]), List.nil_append]
  ·rw [if_neg d] at h; exact absurd h d
theorem rowput_len {l : List V} (hl : FewW l) : (rowput l).1.size ≤ 100000 := by
 have key : ∀ m : List V, (∀ v ∈ m, okV v ∧ v.2.2.2.1.size ≤ 2000) → (rrow m).1.length ≤ m.length * 2100 := by
  intro m
  induction m with
  | nil => intro _; simp [rrow]
  | cons v m ih =>
   intro h
   have h1 := ih (fun w hw => h w (by simp [hw]))
   obtain ⟨⟨⟨b0, b1⟩, n, hn, hn2⟩, hs⟩ := h v (by simp)
   rw [size_eq] at hs
   have h2 := rb_len v.1 v.2.1 b0 b1 v.2.2.1.toNat v.2.2.2.1.data.toList (by omega)
   have h2 : (rb v).length ≤ 11 + v.2.2.2.1.data.toList.length := h2
   simp only [rrow, List.length_cons]
   split
   ·simp
   ·split
    ·simp
    ·simp only [List.length_append]; omega
 have hk := key l (fun v hv => ⟨few_okV hl v hv, (hl.1.2 v hv).1⟩)
 have hl1 := hl.1.1
 have he := encL_len (m := l.length) (by omega)
 unfold rowput
 split
 ·simp [ba_size]
 ·unfold after
  split
  ·simp only [ba_size, List.length_append]; omega
  ·simp [ba_size]
end Go.Proofs.YtaehpfmnejeddaaGreatDoor.Aev
