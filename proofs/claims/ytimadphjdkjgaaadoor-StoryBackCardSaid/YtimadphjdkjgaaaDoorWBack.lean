import Derived.Test.YtimadphjdkjgaaaDoorWShow
import Derived.Test.YtimadphjdkjgaaaDoorLine

/- Words in a line, one behind the other: split again as they were. -/
namespace Go.Proofs.YtimadphjdkjgaaaDoor.Aev
open Go
set_option linter.unusedVariables false
set_option linter.unusedSimpArgs false
set_option maxRecDepth 100000
/-! ### words in a line -/
theorem qL_o (c : UInt8) (t : List UInt8) (h1 : ¬ c = 34) (h2 : ¬ c = 92) : qL (c :: t) = (qL t).map (· + 1) := by
 cases t with
 | nil => simp [qL, h1]
 | cons d t => rw [qL, if_neg h1, if_neg h2]
theorem qL_q (d : UInt8) (t : List UInt8) : qL (92 :: d :: t) = (qL t).map (· + 2) := by rw [qL, if_neg (by decide), if_pos rfl]
theorem hx_plain : ∀ j : Fin 16, ¬ hx j.val = 34 ∧ ¬ hx j.val = 92 ∧ ¬ hx j.val = 32 ∧ 32 ≤ (hx j.val).toNat ∧ (hx j.val).toNat ≤ 126 := by decide
theorem qL_body (r : List UInt8) : ∀ s : List UInt8, qL (s.flatMap qB ++ 34 :: r) = some ((s.flatMap qB).length + 1)
 | [] => by
  rw [List.flatMap_nil, List.nil_append]
  cases r with
  | nil => rfl
  | cons d t => rw [qL, if_pos rfl]; rfl
 | c :: s => by
  have ih := qL_body r s
  have hc := c.toNat_lt
  rw [List.flatMap_cons, List.append_assoc]
  generalize s.flatMap qB = F at *
  unfold qB
  split
  ·rw [List.cons_append, List.cons_append, List.nil_append, qL_q, ih]; simp
  ·rename_i hn
   split
   ·obtain ⟨p1, p2, _⟩ := hx_plain ⟨c.toNat / 16, by omega⟩
    obtain ⟨p3, p4, _⟩ := hx_plain ⟨c.toNat % 16, by omega⟩
    rw [List.cons_append, List.cons_append, List.cons_append, List.cons_append, List.nil_append, qL_q, qL_o _ _ p1 p2, qL_o _ _ p3 p4, ih]
    simp
   ·rw [List.cons_append, List.nil_append, qL_o _ _ (fun q => hn (Or.inl q)) (fun q => hn (Or.inr q)), ih]; simp
theorem refS_plain (r : List UInt8) (ws : List (List UInt8)) : ∀ (t cur : List UInt8), (∀ c ∈ t, ¬ c = 32 ∧ ¬ c = 34) → refS (t ++ r) cur false false ws = refS r (cur ++ t) false false ws
 | [], cur, _ => by simp
 | c :: t, cur, h => by
  obtain ⟨h1, h2⟩ := h c (by simp)
  rw [List.cons_append, refS, if_neg (by simp [h1]), if_pos rfl, decide_eq_false h2, refS_plain r ws t (cur ++ [c]) (fun d hd => h d (by simp [hd]))]
  simp
theorem refS_quoted (r s : List UInt8) (cur : List UInt8) (ws : List (List UInt8)) : refS (quoteL s ++ r) cur false false ws = refS r (cur ++ quoteL s) false false ws := by
 have hb := qL_body r s
 have e : quoteL s ++ r = 34 :: (s.flatMap qB ++ 34 :: r) := by simp [quoteL]
 rw [e, refS, if_neg (by simp), if_pos rfl, decide_eq_true rfl, refS_quote, hb]
 simp only
 have e2 : s.flatMap qB ++ 34 :: r = (s.flatMap qB ++ [34]) ++ r := by simp
 have e3 : (s.flatMap qB).length + 1 = (s.flatMap qB ++ [34]).length := by simp
 rw [e2, e3, List.drop_left, List.take_left]
 congr 1
 simp [quoteL]
theorem refS_word (r t : List UInt8) (ws : List (List UInt8)) (hne : ¬ t = []) (h : ∀ r', refS (t ++ r') [] false false ws = refS r' t false false ws) : refS (t ++ 32 :: r) [] false false ws = refS r [] false false (ws ++ [t]) := by
 rw [h, refS, if_pos ⟨rfl, rfl⟩, if_neg hne]
theorem decL_dg (m : Nat) : ∀ c ∈ decL m, 48 ≤ c.toNat ∧ c.toNat ≤ 57 := by
 induction m using Nat.strongRecOn with
 | _ m ih =>
  intro c hc
  by_cases h : m < 10
  ·rw [decL_lt h] at hc; simp at hc; subst hc; rw [dg_nat]; omega
  ·rw [decL_ge h] at hc
   rcases List.mem_append.1 hc with hc | hc
   ·exact ih _ (by omega) c hc
   ·simp at hc; subst hc; rw [dg_nat]; omega
theorem digL_ch (n : Int) : ∀ c ∈ digL n, c = 45 ∨ (48 ≤ c.toNat ∧ c.toNat ≤ 57) := by
 intro c hc
 unfold digL at hc
 split at hc
 ·rcases List.mem_cons.1 hc with rfl | hc
  ·exact Or.inl rfl
  ·exact Or.inr (decL_dg _ c hc)
 ·exact Or.inr (decL_dg _ c hc)
theorem digL_head (n : Int) : ∃ c t, digL n = c :: t ∧ (c = 45 ∨ (48 ≤ c.toNat ∧ c.toNat ≤ 57)) := by
 have h := digL_ch n
 obtain ⟨c, t, e, _⟩ := decL_head n.natAbs
 unfold digL at *
 split at h
 ·rename_i q; rw [if_pos q]; exact ⟨45, _, rfl, Or.inl rfl⟩
 ·rename_i q; rw [if_neg q, e]; exact ⟨c, t, rfl, h c (by rw [e]; simp)⟩
theorem hexF_ch (n : Nat) : ∀ m, ∀ c ∈ hexF n m, ¬ c = 34 ∧ ¬ c = 32 ∧ 32 ≤ c.toNat ∧ c.toNat ≤ 126
 | 0, c, hc => by simp [hexF] at hc
 | m + 1, c, hc => by
  rw [hexF] at hc
  rcases List.mem_cons.1 hc with rfl | hc
  ·obtain ⟨p1, p2, p3, p4, p5⟩ := hx_plain ⟨n / 2 ^ (4 * m) % 16, Nat.mod_lt _ (by omega)⟩
   exact ⟨p1, p3, p4, p5⟩
  ·exact hexF_ch n m c hc
theorem u8ne {c d : UInt8} (h : c.toNat ≠ d.toNat) : ¬ c = d := fun e => h (by rw [e])
theorem show_word (a0 a1 : Int) (n : Nat) (s : List UInt8) (ws : List (List UInt8)) : ¬ showT a0 a1 n s = [] ∧ ∀ r, refS (showT a0 a1 n s ++ r) [] false false ws = refS r (showT a0 a1 n s) false false ws := by
 have pl : ∀ t : List UInt8, (∀ c ∈ t, ¬ c = 32 ∧ ¬ c = 34) → ∀ r, refS (t ++ r) [] false false ws = refS r t false false ws := fun t ht r => by
  have := refS_plain r ws t [] ht; rwa [List.nil_append] at this
 unfold showT
 split
 ·split
  ·exact ⟨by simp, pl _ (by decide)⟩
  ·exact ⟨by simp, pl _ (by decide)⟩
 ·split
  ·refine ⟨?_, pl _ ?_⟩
   ·obtain ⟨c, t, e, _⟩ := digL_head a1; rw [e]; simp
   ·intro c hc
    rcases digL_ch a1 c hc with rfl | ⟨h1, h2⟩
    ·decide
    ·exact ⟨u8ne (by show c.toNat ≠ 32; omega), u8ne (by show c.toNat ≠ 34; omega)⟩
  ·split
   ·refine ⟨by simp, pl _ ?_⟩
    intro c hc
    rcases List.mem_cons.1 hc with rfl | hc
    ·decide
    ·obtain ⟨p1, p2, _⟩ := hexF_ch n 16 c hc; exact ⟨p2, p1⟩
   ·split
    ·refine ⟨by simp, fun r => ?_⟩
     have h1 := refS_plain (quoteL s ++ r) ws [98] [] (by decide)
     rw [show (98 :: quoteL s) ++ r = [98] ++ (quoteL s ++ r) by simp, h1, refS_quoted]
     simp
    ·split
     ·refine ⟨by simp [quoteL], fun r => ?_⟩
      rw [refS_quoted, List.nil_append]
     ·exact ⟨by simp, pl _ (by decide)⟩
theorem seen_of {l : List UInt8} (h : ∀ c ∈ l, 32 ≤ c.toNat ∧ c.toNat ≤ 126) : seen l = true := by
 unfold seen
 rw [List.all_eq_true]
 intro c hc; rw [decide_eq_true_eq]; exact h c hc
theorem quoteL_seen (s : List UInt8) : ∀ c ∈ quoteL s, 32 ≤ c.toNat ∧ c.toNat ≤ 126 := by
 intro c hc
 unfold quoteL at hc
 rcases List.mem_cons.1 hc with rfl | hc
 ·decide
 ·rcases List.mem_append.1 hc with hc | hc
  ·obtain ⟨d, _, hd⟩ := List.mem_flatMap.1 hc
   have hdl := d.toNat_lt
   unfold qB at hd
   split at hd
   ·rename_i q
    simp at hd
    rcases hd with rfl | rfl
    ·decide
    ·rcases q with rfl | rfl <;> decide
   ·split at hd
    ·simp at hd
     rcases hd with rfl | rfl | rfl | rfl
     ·decide
     ·decide
     ·exact (hx_plain ⟨d.toNat / 16, by omega⟩).2.2.2
     ·exact (hx_plain ⟨d.toNat % 16, by omega⟩).2.2.2
    ·rename_i q
     simp at hd; subst hd; omega
  ·simp at hc; subst hc; decide
theorem show_seen (a0 a1 : Int) (n : Nat) (s : List UInt8) : ∀ c ∈ showT a0 a1 n s, 32 ≤ c.toNat ∧ c.toNat ≤ 126 := by
 unfold showT
 split
 ·split <;> decide
 ·split
  ·intro c hc
   rcases digL_ch a1 c hc with rfl | ⟨h1, h2⟩
   ·decide
   ·omega
  ·split
   ·intro c hc
    rcases List.mem_cons.1 hc with rfl | hc
    ·decide
    ·exact (hexF_ch n 16 c hc).2.2
   ·split
    ·intro c hc
     rcases List.mem_cons.1 hc with rfl | hc
     ·decide
     ·exact quoteL_seen s c hc
    ·split
     ·exact quoteL_seen s
     ·decide
/-! ### a word's value is the value -/
theorem hexN_F (n : Nat) : ∀ (m x : Nat), hexN x (hexF n m) = x * 16 ^ m + n % 16 ^ m
 | 0, x => by simp [hexF, hexN, Nat.mod_one]
 | m + 1, x => by
  have ih := hexN_F n m (x * 16 + hv (hx (n / 2 ^ (4 * m) % 16)))
  have hd := hv_hx ⟨n / 2 ^ (4 * m) % 16, Nat.mod_lt _ (by omega)⟩
  simp only at hd
  rw [hexF]
  show hexN (x * 16 + hv (hx (n / 2 ^ (4 * m) % 16))) (hexF n m) = _
  rw [ih, hd]
  have e : 2 ^ (4 * m) = 16 ^ m := by rw [Nat.pow_mul]
  rw [e]
  have h1 : n % 16 ^ (m + 1) = n % 16 ^ m + 16 ^ m * (n / 16 ^ m % 16) := by rw [Nat.pow_succ]; exact Nat.mod_mul
  rw [h1, Nat.pow_succ, Nat.add_mul, Nat.mul_assoc, Nat.mul_comm 16 (16 ^ m), Nat.mul_comm (n / 16 ^ m % 16)]
  omega
theorem guess_show (a0 a1 : Int) (h0 : -9223372036854775808 ≤ a1) (h1 : a1 ≤ 9223372036854775807) (n : Nat) (hn : n < 18446744073709551616) (s : List UInt8) (h : checkS a0 a1 n (mkW s) = 0) : guessL (showT a0 a1 n s) = (a0, a1, n, s) := by
 obtain ⟨⟨p0, p5⟩, ⟨f1, f2, f3⟩, pb, _⟩ := check_0.1 h
 simp only [ba_data] at f3
 unfold showT
 by_cases c1 : a0 = 1
 ·subst c1
  obtain rfl : n = 0 := by omega
  obtain rfl : s = [] := by rcases f3 with f | f; exact f; omega
  rw [if_pos rfl]
  rcases pb rfl with rfl | rfl
  ·rfl
  ·rfl
 ·rw [if_neg c1]
  by_cases c2 : a0 = 2
  ·subst c2
   obtain rfl : n = 0 := by omega
   obtain rfl : s = [] := by rcases f3 with f | f; exact f; omega
   rw [if_pos rfl]
   obtain ⟨c, t, e, hc⟩ := digL_head a1
   have hN := numL_dig a1 h0 h1
   rw [e] at hN ⊢
   have hc' : ¬ c = 110 ∧ ¬ c = 102 ∧ ¬ c = 116 ∧ ¬ c = 114 ∧ ¬ c = 98 ∧ ¬ c = 34 := by
    rcases hc with rfl | ⟨h1, h2⟩
    ·decide
    ·exact ⟨u8ne (by show c.toNat ≠ 110; omega), u8ne (by show c.toNat ≠ 102; omega), u8ne (by show c.toNat ≠ 116; omega), u8ne (by show c.toNat ≠ 114; omega), u8ne (by show c.toNat ≠ 98; omega), u8ne (by show c.toNat ≠ 34; omega)⟩
   obtain ⟨q1, q2, q3, q4, q5, q6⟩ := hc'
   unfold guessL
   rw [if_neg (by simp [q1]), if_neg (by simp [q2]), if_neg (by simp [q3])]
   simp only
   rw [if_neg (fun z => q4 z.2), if_neg q5, if_neg q6, hN]
  ·rw [if_neg c2]
   have ha : a1 = 0 := by omega
   subst ha
   by_cases c3 : a0 = 3
   ·subst c3
    obtain rfl : s = [] := by rcases f3 with f | f; exact f; omega
    rw [if_pos rfl]
    unfold guessL
    rw [if_neg (by simp), if_neg (by simp), if_neg (by simp)]
    simp only
    rw [if_pos ⟨by rw [List.length_cons, hexF_len], trivial⟩, hexN_F n 16 0, Nat.mod_eq_of_lt (by omega)]
    simp
   ·rw [if_neg c3]
    obtain rfl : n = 0 := by omega
    by_cases c4 : a0 = 4
    ·subst c4
     rw [if_pos rfl]
     unfold guessL
     rw [if_neg (by simp), if_neg (by simp), if_neg (by simp)]
     simp only
     rw [if_neg (fun z => absurd z.2 (by decide)), if_pos trivial, unquote_quote]
    ·rw [if_neg c4]
     by_cases c5 : a0 = 5
     ·subst c5
      rw [if_pos rfl]
      have hu := unquote_quote s
      unfold guessL
      rw [if_neg (by simp [quoteL]), if_neg (by simp [quoteL]), if_neg (by simp [quoteL])]
      have e : quoteL s = 34 :: (s.flatMap qB ++ [34]) := rfl
      rw [e] at hu ⊢
      simp only
      rw [if_neg (fun z => absurd z.2 (by decide)), if_neg (by decide), if_pos trivial, hu]
     ·rw [if_neg c5]
      have : a0 = 0 := by omega
      subst this
      obtain rfl : s = [] := by rcases f3 with f | f; exact f; omega
      rfl
theorem value_show (a0 a1 : Int) (h0 : -9223372036854775808 ≤ a1) (h1 : a1 ≤ 9223372036854775807) (n : Nat) (hn : n < 18446744073709551616) (s : List UInt8) (h : checkS a0 a1 n (mkW s) = 0) : valueL (showT a0 a1 n s) = ((a0, a1, n, s), 0) := by
 have hg := guess_show a0 a1 h0 h1 n hn s h
 have hs : showL a0 a1 n s = (showT a0 a1 n s, 0) := by unfold showL; rw [if_pos h]
 unfold valueL
 rw [hg, hs, if_pos ⟨rfl, rfl⟩]
theorem show_len (a0 a1 : Int) (h0 : -9223372036854775808 ≤ a1) (h1 : a1 ≤ 9223372036854775807) (n : Nat) (s : List UInt8) : (showT a0 a1 n s).length ≤ 4 * s.length + 40 := by
 have hq : (quoteL s).length ≤ 4 * s.length + 2 := by have := flatq_len s; unfold quoteL; rw [List.length_cons, List.length_append, List.length_singleton]; omega
 have hd := (digL_len a1 h0 h1).1
 unfold showT
 split
 ·split <;> simp <;> omega
 ·split
  ·omega
  ·split
   ·rw [List.length_cons, hexF_len]; omega
   ·split
    ·rw [List.length_cons]; omega
    ·split
     ·omega
     ·simp <;> omega
/-! ### words -/
theorem jb_cons' (x : ByteArray) (r : List ByteArray) : jb (x :: r) = 32 :: (x.data.toList ++ jb r) := by simp [jb]
def GW (t : List UInt8) : Prop := t ≠ [] ∧ (∀ r ws, refS (t ++ r) [] false false ws = refS r t false false ws) ∧ (∀ c ∈ t, 32 ≤ c.toNat ∧ c.toNat ≤ 126) ∧ t.length ≤ 400
theorem gw_plain {t : List UInt8} (h : t ≠ []) (hl : t.length ≤ 400) (hc : ∀ c ∈ t, (¬ c = 32 ∧ ¬ c = 34) ∧ 32 ≤ c.toNat ∧ c.toNat ≤ 126) : GW t :=
 ⟨h, fun r ws => by have := refS_plain r ws t [] (fun c h => (hc c h).1); rwa [List.nil_append] at this, fun c h => (hc c h).2, hl⟩
theorem gw_split : ∀ (r : List ByteArray) (t : List UInt8) (acc : List (List UInt8)), GW t → (∀ w ∈ r, GW w.data.toList) → refS (t ++ jb r) [] false false acc = (acc ++ t :: r.map (·.data.toList), 0)
 | [], t, acc, h, _ => by
  have e : jb [] = [] := rfl
  rw [e, h.2.1 [] acc, refS]
  simp [h.1]
 | x :: r, t, acc, h, hr => by
  rw [jb_cons', refS_word _ _ _ h.1 (fun r' => h.2.1 r' acc), gw_split r x.data.toList (acc ++ [t]) (hr x (by simp)) (fun w hw => hr w (List.mem_cons_of_mem _ hw))]
  simp
theorem splitL_jn {ws : List ByteArray} (h : ∀ w ∈ ws, GW w.data.toList) : splitL (jn ws) = (ws.map (·.data.toList), 0) := by
 have hs : ∀ l : List ByteArray, (∀ w ∈ l, GW w.data.toList) → ∀ c ∈ jb l, 32 ≤ c.toNat ∧ c.toNat ≤ 126 := by
  intro l hl c hc
  unfold jb at hc
  obtain ⟨y, hy, hc⟩ := List.mem_flatten.1 hc
  obtain ⟨w, hw, rfl⟩ := List.mem_map.1 hy
  cases List.mem_cons.1 hc with
  | inl e => subst e; decide
  | inr e => exact (hl w hw).2.2.1 c e
 unfold splitL
 cases ws with
 | nil => rfl
 | cons w r =>
  have hsn : seen (jn (w :: r)) = true := by
   apply seen_of
   intro c hc
   rw [jn] at hc
   rcases List.mem_append.1 hc with hc | hc
   ·exact (h w (by simp)).2.2.1 c hc
   ·exact hs r (fun x hx => h x (List.mem_cons_of_mem _ hx)) c hc
  rw [if_pos hsn, jn, gw_split r w.data.toList [] (h w (by simp)) (fun x hx => h x (List.mem_cons_of_mem _ hx))]
  simp
end Go.Proofs.YtimadphjdkjgaaaDoor.Aev
