/- WordsBack: values written as words, one behind the other, are read again as they were. For every input; no conditions. -/
import Derived.Test.YtchlbajnmhffpaaF6
import Derived.Test.YtchlbajnmhffpaaF19
import Derived.Test.YtchlbajnmhffpaaWShow
import Derived.Test.YtchlbajnmhffpaaFew4
namespace Go.Proofs.Ytchlbajnmhffpaa.Aev
open Go
set_option linter.unusedVariables false
set_option linter.unusedSimpArgs false
set_option maxRecDepth 100000
theorem awake_all (k : Nat) : transomlaw36_awake.f (k + 400) = some true := by kernel_rfl
theorem awake_ge (k : Nat) (h : 400 ≤ k) : transomlaw36_awake.f k = some true := by
  obtain ⟨j, rfl⟩ : ∃ j, k = j + 400 := ⟨k - 400, by omega⟩
  exact awake_all j
/-! ### words in a line -/
theorem qL_o (c : UInt8) (t : List UInt8) (h1 : ¬ c = 34) (h2 : ¬ c = 92) : qL (c :: t) = (qL t).map (· + 1) := by
  cases t with
  | nil => simp [qL, h1]
  | cons d t => rw [qL, if_neg h1, if_neg h2]
theorem qL_q (d : UInt8) (t : List UInt8) : qL (92 :: d :: t) = (qL t).map (· + 2) := by rw [qL, if_neg (by decide), if_pos rfl]
theorem hx_plain : ∀ j : Fin 16, ¬ hx j.val = 34 ∧ ¬ hx j.val = 92 ∧ ¬ hx j.val = 32 ∧ 32 ≤ (hx j.val).toNat ∧ (hx j.val).toNat ≤ 126 := by decide
theorem qL_body (r : List UInt8) : ∀ s : List UInt8, qL (s.flatMap qB ++ 34 :: r) = some ((s.flatMap qB).length + 1)
  | [] => by
    rw [List.flatMap_nil, List.nil_append]
    cases r with
    | nil => rfl
    | cons d t => rw [qL, if_pos rfl]; rfl
  | c :: s => by
    have ih := qL_body r s
    have hc := c.toNat_lt
    rw [List.flatMap_cons, List.append_assoc]
    generalize s.flatMap qB = F at *
    unfold qB
    split
    · rw [List.cons_append, List.cons_append, List.nil_append, qL_q, ih]; simp
    · rename_i hn
      split
      · obtain ⟨p1, p2, _⟩ := hx_plain ⟨c.toNat / 16, by omega⟩
        obtain ⟨p3, p4, _⟩ := hx_plain ⟨c.toNat % 16, by omega⟩
        rw [List.cons_append, List.cons_append, List.cons_append, List.cons_append, List.nil_append, qL_q, qL_o _ _ p1 p2, qL_o _ _ p3 p4, ih]
        simp
      · rw [List.cons_append, List.nil_append, qL_o _ _ (fun q => hn (Or.inl q)) (fun q => hn (Or.inr q)), ih]; simp
theorem refS_plain (r : List UInt8) (ws : List (List UInt8)) : ∀ (t cur : List UInt8), (∀ c ∈ t, ¬ c = 32 ∧ ¬ c = 34) → refS (t ++ r) cur false false ws = refS r (cur ++ t) false false ws
  | [], cur, _ => by simp
  | c :: t, cur, h => by
    obtain ⟨h1, h2⟩ := h c (by simp)
    rw [List.cons_append, refS, if_neg (by simp [h1]), if_pos rfl, decide_eq_false h2, refS_plain r ws t (cur ++ [c]) (fun d hd => h d (by simp [hd]))]
    simp
theorem refS_quoted (r s : List UInt8) (cur : List UInt8) (ws : List (List UInt8)) : refS (quoteL s ++ r) cur false false ws = refS r (cur ++ quoteL s) false false ws := by
  have hb := qL_body r s
  have e : quoteL s ++ r = 34 :: (s.flatMap qB ++ 34 :: r) := by simp [quoteL]
  rw [e, refS, if_neg (by simp), if_pos rfl, decide_eq_true rfl, refS_quote, hb]
  simp only
  have e2 : s.flatMap qB ++ 34 :: r = (s.flatMap qB ++ [34]) ++ r := by simp
  have e3 : (s.flatMap qB).length + 1 = (s.flatMap qB ++ [34]).length := by simp
  rw [e2, e3, List.drop_left, List.take_left]
  congr 1
  simp [quoteL]
theorem refS_word (r t : List UInt8) (ws : List (List UInt8)) (hne : ¬ t = []) (h : ∀ r', refS (t ++ r') [] false false ws = refS r' t false false ws) : refS (t ++ 32 :: r) [] false false ws = refS r [] false false (ws ++ [t]) := by
  rw [h, refS, if_pos ⟨rfl, rfl⟩, if_neg hne]
theorem decL_dg (m : Nat) : ∀ c ∈ decL m, 48 ≤ c.toNat ∧ c.toNat ≤ 57 := by
  induction m using Nat.strongRecOn with
  | _ m ih =>
    intro c hc
    by_cases h : m < 10
    · rw [decL_lt h] at hc; simp at hc; subst hc; rw [dg_nat]; omega
    · rw [decL_ge h] at hc
      rcases List.mem_append.1 hc with hc | hc
      · exact ih _ (by omega) c hc
      · simp at hc; subst hc; rw [dg_nat]; omega
theorem digL_ch (n : Int) : ∀ c ∈ digL n, c = 45 ∨ (48 ≤ c.toNat ∧ c.toNat ≤ 57) := by
  intro c hc
  unfold digL at hc
  split at hc
  · rcases List.mem_cons.1 hc with rfl | hc
    · exact Or.inl rfl
    · exact Or.inr (decL_dg _ c hc)
  · exact Or.inr (decL_dg _ c hc)
theorem digL_head (n : Int) : ∃ c t, digL n = c :: t ∧ (c = 45 ∨ (48 ≤ c.toNat ∧ c.toNat ≤ 57)) := by
  have h := digL_ch n
  obtain ⟨c, t, e, _⟩ := decL_head n.natAbs
  unfold digL at *
  split at h
  · rename_i q; rw [if_pos q]; exact ⟨45, _, rfl, Or.inl rfl⟩
  · rename_i q; rw [if_neg q, e]; exact ⟨c, t, rfl, h c (by rw [e]; simp)⟩
theorem hexF_ch (n : Nat) : ∀ m, ∀ c ∈ hexF n m, ¬ c = 34 ∧ ¬ c = 32 ∧ 32 ≤ c.toNat ∧ c.toNat ≤ 126
  | 0, c, hc => by simp [hexF] at hc
  | m + 1, c, hc => by
    rw [hexF] at hc
    rcases List.mem_cons.1 hc with rfl | hc
    · obtain ⟨p1, p2, p3, p4, p5⟩ := hx_plain ⟨n / 2 ^ (4 * m) % 16, Nat.mod_lt _ (by omega)⟩
      exact ⟨p1, p3, p4, p5⟩
    · exact hexF_ch n m c hc
theorem u8ne {c d : UInt8} (h : c.toNat ≠ d.toNat) : ¬ c = d := fun e => h (by rw [e])
theorem show_word (a0 a1 : Int) (n : Nat) (s : List UInt8) (ws : List (List UInt8)) : ¬ showT a0 a1 n s = [] ∧ ∀ r, refS (showT a0 a1 n s ++ r) [] false false ws = refS r (showT a0 a1 n s) false false ws := by
  have pl : ∀ t : List UInt8, (∀ c ∈ t, ¬ c = 32 ∧ ¬ c = 34) → ∀ r, refS (t ++ r) [] false false ws = refS r t false false ws := fun t ht r => by
    have := refS_plain r ws t [] ht; rwa [List.nil_append] at this
  unfold showT
  split
  · split
    · exact ⟨by simp, pl _ (by decide)⟩
    · exact ⟨by simp, pl _ (by decide)⟩
  · split
    · refine ⟨?_, pl _ ?_⟩
      · obtain ⟨c, t, e, _⟩ := digL_head a1; rw [e]; simp
      · intro c hc
        rcases digL_ch a1 c hc with rfl | ⟨h1, h2⟩
        · decide
        · exact ⟨u8ne (by show c.toNat ≠ 32; omega), u8ne (by show c.toNat ≠ 34; omega)⟩
    · split
      · refine ⟨by simp, pl _ ?_⟩
        intro c hc
        rcases List.mem_cons.1 hc with rfl | hc
        · decide
        · obtain ⟨p1, p2, _⟩ := hexF_ch n 16 c hc; exact ⟨p2, p1⟩
      · split
        · refine ⟨by simp, fun r => ?_⟩
          have h1 := refS_plain (quoteL s ++ r) ws [98] [] (by decide)
          rw [show (98 :: quoteL s) ++ r = [98] ++ (quoteL s ++ r) by simp, h1, refS_quoted]
          simp
        · split
          · refine ⟨by simp [quoteL], fun r => ?_⟩
            rw [refS_quoted, List.nil_append]
          · exact ⟨by simp, pl _ (by decide)⟩
def seenB (c : UInt8) : Bool := decide (32 ≤ c.toNat ∧ c.toNat ≤ 126)
theorem seen_of {l : List UInt8} (h : ∀ c ∈ l, 32 ≤ c.toNat ∧ c.toNat ≤ 126) : seen l = true := by
  unfold seen
  rw [List.all_eq_true]
  intro c hc; rw [decide_eq_true_eq]; exact h c hc
theorem quoteL_seen (s : List UInt8) : ∀ c ∈ quoteL s, 32 ≤ c.toNat ∧ c.toNat ≤ 126 := by
  intro c hc
  unfold quoteL at hc
  rcases List.mem_cons.1 hc with rfl | hc
  · decide
  · rcases List.mem_append.1 hc with hc | hc
    · obtain ⟨d, _, hd⟩ := List.mem_flatMap.1 hc
      have hdl := d.toNat_lt
      unfold qB at hd
      split at hd
      · rename_i q
        simp at hd
        rcases hd with rfl | rfl
        · decide
        · rcases q with rfl | rfl <;> decide
      · split at hd
        · simp at hd
          rcases hd with rfl | rfl | rfl | rfl
          · decide
          · decide
          · exact (hx_plain ⟨d.toNat / 16, by omega⟩).2.2.2
          · exact (hx_plain ⟨d.toNat % 16, by omega⟩).2.2.2
        · rename_i q
          simp at hd; subst hd; omega
    · simp at hc; subst hc; decide
theorem show_seen (a0 a1 : Int) (n : Nat) (s : List UInt8) : ∀ c ∈ showT a0 a1 n s, 32 ≤ c.toNat ∧ c.toNat ≤ 126 := by
  unfold showT
  split
  · split <;> decide
  · split
    · intro c hc
      rcases digL_ch a1 c hc with rfl | ⟨h1, h2⟩
      · decide
      · omega
    · split
      · intro c hc
        rcases List.mem_cons.1 hc with rfl | hc
        · decide
        · exact (hexF_ch n 16 c hc).2.2
      · split
        · intro c hc
          rcases List.mem_cons.1 hc with rfl | hc
          · decide
          · exact quoteL_seen s c hc
        · split
          · exact quoteL_seen s
          · decide
/-! ### a word's value is the value -/
theorem hexN_F (n : Nat) : ∀ (m x : Nat), hexN x (hexF n m) = x * 16 ^ m + n % 16 ^ m
  | 0, x => by simp [hexF, hexN, Nat.mod_one]
  | m + 1, x => by
    have ih := hexN_F n m (x * 16 + hv (hx (n / 2 ^ (4 * m) % 16)))
    have hd := hv_hx ⟨n / 2 ^ (4 * m) % 16, Nat.mod_lt _ (by omega)⟩
    simp only at hd
    rw [hexF]
    show hexN (x * 16 + hv (hx (n / 2 ^ (4 * m) % 16))) (hexF n m) = _
    rw [ih, hd]
    have e : 2 ^ (4 * m) = 16 ^ m := by rw [Nat.pow_mul]
    rw [e]
    have h1 : n % 16 ^ (m + 1) = n % 16 ^ m + 16 ^ m * (n / 16 ^ m % 16) := by rw [Nat.pow_succ]; exact Nat.mod_mul
    rw [h1, Nat.pow_succ, Nat.add_mul, Nat.mul_assoc, Nat.mul_comm 16 (16 ^ m), Nat.mul_comm (n / 16 ^ m % 16)]
    omega
theorem guess_show (a0 a1 : Int) (h0 : -9223372036854775808 ≤ a1) (h1 : a1 ≤ 9223372036854775807) (n : Nat) (hn : n < 18446744073709551616) (s : List UInt8) (h : checkS a0 a1 n (mkW s) = 0) : guessL (showT a0 a1 n s) = (a0, a1, n, s) := by
  obtain ⟨⟨p0, p5⟩, ⟨f1, f2, f3⟩, pb, _⟩ := check_0.1 h
  simp only [ba_data] at f3
  unfold showT
  by_cases c1 : a0 = 1
  · subst c1
    obtain rfl : n = 0 := by omega
    obtain rfl : s = [] := by rcases f3 with f | f; exact f; omega
    rw [if_pos rfl]
    rcases pb rfl with rfl | rfl
    · rfl
    · rfl
  · rw [if_neg c1]
    by_cases c2 : a0 = 2
    · subst c2
      obtain rfl : n = 0 := by omega
      obtain rfl : s = [] := by rcases f3 with f | f; exact f; omega
      rw [if_pos rfl]
      obtain ⟨c, t, e, hc⟩ := digL_head a1
      have hN := numL_dig a1 h0 h1
      rw [e] at hN ⊢
      have hc' : ¬ c = 110 ∧ ¬ c = 102 ∧ ¬ c = 116 ∧ ¬ c = 114 ∧ ¬ c = 98 ∧ ¬ c = 34 := by
        rcases hc with rfl | ⟨h1, h2⟩
        · decide
        · exact ⟨u8ne (by show c.toNat ≠ 110; omega), u8ne (by show c.toNat ≠ 102; omega), u8ne (by show c.toNat ≠ 116; omega), u8ne (by show c.toNat ≠ 114; omega), u8ne (by show c.toNat ≠ 98; omega), u8ne (by show c.toNat ≠ 34; omega)⟩
      obtain ⟨q1, q2, q3, q4, q5, q6⟩ := hc'
      unfold guessL
      rw [if_neg (by simp [q1]), if_neg (by simp [q2]), if_neg (by simp [q3])]
      simp only
      rw [if_neg (fun z => q4 z.2), if_neg q5, if_neg q6, hN]
    · rw [if_neg c2]
      have ha : a1 = 0 := by omega
      subst ha
      by_cases c3 : a0 = 3
      · subst c3
        obtain rfl : s = [] := by rcases f3 with f | f; exact f; omega
        rw [if_pos rfl]
        unfold guessL
        rw [if_neg (by simp), if_neg (by simp), if_neg (by simp)]
        simp only
        rw [if_pos ⟨by rw [List.length_cons, hexF_len], trivial⟩, hexN_F n 16 0, Nat.mod_eq_of_lt (by omega)]
        simp
      · rw [if_neg c3]
        obtain rfl : n = 0 := by omega
        by_cases c4 : a0 = 4
        · subst c4
          rw [if_pos rfl]
          unfold guessL
          rw [if_neg (by simp), if_neg (by simp), if_neg (by simp)]
          simp only
          rw [if_neg (fun z => absurd z.2 (by decide)), if_pos trivial, unquote_quote]
        · rw [if_neg c4]
          by_cases c5 : a0 = 5
          · subst c5
            rw [if_pos rfl]
            have hu := unquote_quote s
            unfold guessL
            rw [if_neg (by simp [quoteL]), if_neg (by simp [quoteL]), if_neg (by simp [quoteL])]
            have e : quoteL s = 34 :: (s.flatMap qB ++ [34]) := rfl
            rw [e] at hu ⊢
            simp only
            rw [if_neg (fun z => absurd z.2 (by decide)), if_neg (by decide), if_pos trivial, hu]
          · rw [if_neg c5]
            have : a0 = 0 := by omega
            subst this
            obtain rfl : s = [] := by rcases f3 with f | f; exact f; omega
            rfl
theorem value_show (a0 a1 : Int) (h0 : -9223372036854775808 ≤ a1) (h1 : a1 ≤ 9223372036854775807) (n : Nat) (hn : n < 18446744073709551616) (s : List UInt8) (h : checkS a0 a1 n (mkW s) = 0) : valueL (showT a0 a1 n s) = ((a0, a1, n, s), 0) := by
  have hg := guess_show a0 a1 h0 h1 n hn s h
  have hs : showL a0 a1 n s = (showT a0 a1 n s, 0) := by unfold showL; rw [if_pos h]
  unfold valueL
  rw [hg, hs, if_pos ⟨rfl, rfl⟩]
theorem show_len (a0 a1 : Int) (h0 : -9223372036854775808 ≤ a1) (h1 : a1 ≤ 9223372036854775807) (n : Nat) (s : List UInt8) : (showT a0 a1 n s).length ≤ 4 * s.length + 40 := by
  have hq : (quoteL s).length ≤ 4 * s.length + 2 := by have := flatq_len s; unfold quoteL; rw [List.length_cons, List.length_append, List.length_singleton]; omega
  have hd := (digL_len a1 h0 h1).1
  unfold showT
  split
  · split <;> simp <;> omega
  · split
    · omega
    · split
      · rw [List.length_cons, hexF_len]; omega
      · split
        · rw [List.length_cons]; omega
        · split
          · omega
          · simp <;> omega
/-! ### lines of values -/
def tV (v : V) : List UInt8 := showT v.1 v.2.1 v.2.2.1.toNat v.2.2.2.1.data.toList
noncomputable def cV (v : V) : Int := checkS v.1 v.2.1 v.2.2.1.toNat (mkW v.2.2.2.1.data.toList)
def okV (v : V) : Prop := (-9223372036854775808 ≤ v.2.1 ∧ v.2.1 ≤ 9223372036854775807) ∧ ∃ n : Nat, v.2.2.1 = (n : Int) ∧ n < 18446744073709551616
def lineL (l : List V) : List UInt8 := l.flatMap fun v => tV v ++ [32]
theorem line_split : ∀ (l : List V) (ws : List (List UInt8)), refS (lineL l) [] false false ws = (ws ++ l.map tV, 0)
  | [], ws => by simp [lineL, refS]
  | v :: l, ws => by
    obtain ⟨h1, h2⟩ := show_word v.1 v.2.1 v.2.2.1.toNat v.2.2.2.1.data.toList ws
    have e : lineL (v :: l) = tV v ++ 32 :: lineL l := by simp [lineL]
    have h1 : ¬ tV v = [] := h1
    have h2 : ∀ r, refS (tV v ++ r) [] false false ws = refS r (tV v) false false ws := h2
    rw [e, refS_word _ _ _ h1 h2, line_split l]
    simp
theorem line_seen (l : List V) : seen (lineL l) = true := by
  apply seen_of
  intro c hc
  obtain ⟨v, _, hv⟩ := List.mem_flatMap.1 hc
  rcases List.mem_append.1 hv with hv | hv
  · exact show_seen _ _ _ _ c hv
  · simp at hv; subst hv; decide
theorem splitL_line (l : List V) : splitL (lineL l) = (l.map tV, 0) := by
  unfold splitL; rw [if_pos (line_seen l), line_split]; rfl
theorem line_append (l m : List V) : lineL (l ++ m) = lineL l ++ lineL m := by unfold lineL; rw [List.flatMap_append]
theorem back_s4 (l : List V) (hl : l.length ≤ 12) (hok : ∀ v ∈ l, okV v ∧ cV v = 0 ∧ v.2.2.2.1.size ≤ 64) : ∀ (m i : Nat), i + m = l.length → ∀ k, 3 * m + 9000400 < k →
    transomlaw36_WordsBack.s4 k l (l.map fun v => mkW (tV v)) (i : Int) = some true := by
  intro m
  induction m with
  | zero =>
    intro i hi k hk
    obtain ⟨k, rfl⟩ : ∃ j, k = j + 1 := ⟨k - 1, by omega⟩
    have e : ¬ (i : Int) < (l.length : Int) := by omega
    have aw := awake_ge k (by omega)
    simp only [transomlaw36_WordsBack.s4, transomlaw36_WordsBack.s4c, e, decide_false, cond_false, aw, Option.bind_some]
  | succ m ih =>
    intro i hi k hk
    obtain ⟨k, rfl⟩ : ∃ j, k = j + 3 := ⟨k - 3, by omega⟩
    have h : i < l.length := by omega
    have e : (i : Int) < (l.length : Int) := by omega
    have e0 : (0 : Int) ≤ (i : Int) := by omega
    have e1 : (i : Int) < ((l.map fun v => mkW (tV v)).length : Int) := by simp; omega
    have w : IntKind.wrap IntKind.i64 ((i : Int) + 1) = ((i + 1 : Nat) : Int) := by rw [i64w (by omega) (by omega)]; omega
    obtain ⟨⟨⟨b0, b1⟩, n, hn, hn2⟩, hc, hs⟩ := hok l[i] (List.getElem_mem h)
    rw [size_eq] at hs
    have hel : elem Ty.str (l.map fun v => mkW (tV v)) (i : Int) = mkW (tV l[i]) := by
      rw [elem_str _ i (by simpa using h)]; simp
    have hnt : l[i].2.2.1.toNat = n := by rw [hn]; rfl
    have ht : tV l[i] = showT l[i].1 l[i].2.1 n l[i].2.2.2.1.data.toList := by unfold tV; rw [hnt]
    have hc' : checkS l[i].1 l[i].2.1 n (mkW l[i].2.2.2.1.data.toList) = 0 := by unfold cV at hc; rwa [hnt] at hc
    have hv := value_show l[i].1 l[i].2.1 b0 b1 n hn2 l[i].2.2.2.1.data.toList hc'
    have hlen := show_len l[i].1 l[i].2.1 b0 b1 n l[i].2.2.2.1.data.toList
    have hval := wvalue_eq (tV l[i]) (by rw [ht]; omega) (k + 2) (by omega)
    rw [ht, hv, ← ht] at hval
    have hval : words_Value.f (k + 2) (mkW (tV l[i])) = some (l[i].1, l[i].2.1, (n : Int), mkW l[i].2.2.2.1.data.toList, 0) := hval
    have := ih (i + 1) (by omega) k (by omega)
    simp only [transomlaw36_WordsBack.s4, transomlaw36_WordsBack.s4c, transomlaw36_WordsBack.s5, transomlaw36_WordsBack.s5c, transomlaw36_WordsBack.s6, transomlaw36_WordsBack.s6c, e, e0, e1, hel, hval, elem_at h, same_eq, hn, w, this, ← ba_of, bne_self_eq_false, and_self, decide_true, Bool.and_self, Bool.not_true, cond_true, cond_false, Option.bind_some, Option.bind_fun_some]
theorem back_s0 (l : List V) (hl : l.length ≤ 12) (hok : ∀ v ∈ l, okV v) : ∀ (m i : Nat), i + m = l.length → (∀ v ∈ l.take i, cV v = 0 ∧ v.2.2.2.1.size ≤ 64) → ∀ k, 3 * m + 9100000 < k →
    transomlaw36_WordsBack.s0 k l (mkW (lineL (l.take i))) (i : Int) = some true := by
  have hll : ∀ i, (∀ v ∈ l.take i, cV v = 0 ∧ v.2.2.2.1.size ≤ 64) → (lineL (l.take i)).length ≤ 12 * 400 := by
    have key : ∀ m : List V, (∀ v ∈ m, okV v ∧ v.2.2.2.1.size ≤ 64) → (lineL m).length ≤ m.length * 400 := by
      intro m
      induction m with
      | nil => intro _; simp [lineL]
      | cons v m ih =>
        intro h
        obtain ⟨⟨⟨b0, b1⟩, n, hn, hn2⟩, hs⟩ := h v (by simp)
        rw [size_eq] at hs
        have h1 := show_len v.1 v.2.1 b0 b1 v.2.2.1.toNat v.2.2.2.1.data.toList
        have h1 : (tV v).length ≤ 4 * v.2.2.2.1.data.toList.length + 40 := h1
        have h2 := ih (fun w hw => h w (by simp [hw]))
        have e : lineL (v :: m) = (tV v ++ [32]) ++ lineL m := by simp [lineL]
        rw [e, List.length_append, List.length_append, List.length_singleton, List.length_cons]; omega
    intro i hi
    have := key (l.take i) (fun v hv => ⟨hok v (List.mem_of_mem_take hv), (hi v hv).2⟩)
    have h2 : (l.take i).length ≤ 12 := by simp; omega
    omega
  intro m
  induction m with
  | zero =>
    intro i hi hc k hk
    obtain ⟨k, rfl⟩ : ∃ j, k = j + 3 := ⟨k - 3, by omega⟩
    have e : ¬ (i : Int) < (l.length : Int) := by omega
    have ht : l.take i = l := List.take_of_length_le (by omega)
    have hlen := hll i hc
    rw [ht] at hc hlen ⊢
    have hs := split_eq (lineL l) (by omega) (k + 2) (by omega)
    rw [splitL_line] at hs
    have hs : words_Split.f (k + 2) (mkW (lineL l)) = some ((l.map tV).map mkW, 0) := hs
    rw [List.map_map] at hs
    have h4 := back_s4 l hl (fun v hv => ⟨hok v hv, hc v hv⟩) l.length 0 (by omega) k (by omega)
    have h4 : transomlaw36_WordsBack.s4 k l (l.map (mkW ∘ tV)) 0 = some true := h4
    have ll : (((l.map (mkW ∘ tV)).length : Nat) : Int) = (l.length : Int) := by simp
    simp only [transomlaw36_WordsBack.s0, transomlaw36_WordsBack.s0c, transomlaw36_WordsBack.s2, transomlaw36_WordsBack.s2c, transomlaw36_WordsBack.s3, transomlaw36_WordsBack.s3c, e, hs, ll, h4, bne_self_eq_false, decide_false, cond_false, Option.bind_some, Option.bind_fun_some]
  | succ m ih =>
    intro i hi hc k hk
    obtain ⟨k, rfl⟩ : ∃ j, k = j + 1 := ⟨k - 1, by omega⟩
    have aw := awake_ge k (by omega)
    have h : i < l.length := by omega
    have e : (i : Int) < (l.length : Int) := by omega
    have e0 : (0 : Int) ≤ (i : Int) := by omega
    have w : IntKind.wrap IntKind.i64 ((i : Int) + 1) = ((i + 1 : Nat) : Int) := by rw [i64w (by omega) (by omega)]; omega
    obtain ⟨⟨b0, b1⟩, n, hn, hn2⟩ := hok l[i] (List.getElem_mem h)
    have hnt : l[i].2.2.1.toNat = n := by rw [hn]; rfl
    simp only [transomlaw36_WordsBack.s0, transomlaw36_WordsBack.s0c, e, e0, elem_at h, hn, few04, decide_true, Bool.and_self, cond_true, Option.bind_some]
    by_cases hs : l[i].2.2.2.1.size ≤ 2000
    · rw [if_pos hs]
      rw [size_eq] at hs
      have hsh := show_eq l[i].1 l[i].2.1 b0 b1 n hn2 l[i].2.2.2.1.data.toList (by omega) k (by omega)
      have hsh : words_Show.f k l[i].1 l[i].2.1 (n : Int) l[i].2.2.2.1 = some (encQ (showL l[i].1 l[i].2.1 n l[i].2.2.2.1.data.toList)) := hsh
      have g : ((1 : Int) == 0) = false := rfl
      simp only [g, cond_false, hsh, Option.bind_some]
      by_cases c : checkS l[i].1 l[i].2.1 n (mkW l[i].2.2.2.1.data.toList) = 0
      · have hL : showL l[i].1 l[i].2.1 n l[i].2.2.2.1.data.toList = (tV l[i], 0) := by
          unfold showL tV; rw [if_pos c, hnt]
        have hsz : l[i].2.2.2.1.size ≤ 64 := by
          have := (check_0.1 c).2.2.2.2.1
          exact this
        have hlen := show_len l[i].1 l[i].2.1 b0 b1 n l[i].2.2.2.1.data.toList
        have hlt : (tV l[i]).length ≤ 5000 := by
          have : (tV l[i]).length = (showT l[i].1 l[i].2.1 n l[i].2.2.2.1.data.toList).length := by unfold tV; rw [hnt]
          rw [size_eq] at hsz; omega
        have hx1 := hll i hc
        have ht : l.take (i + 1) = l.take i ++ [l[i]] := List.take_succ_eq_append_getElem h
        have hc' : ∀ v ∈ l.take (i + 1), cV v = 0 ∧ v.2.2.2.1.size ≤ 64 := by
          intro v hv
          rw [ht] at hv
          rcases List.mem_append.1 hv with hv | hv
          · exact hc v hv
          · simp at hv; subst hv
            refine ⟨?_, hsz⟩
            unfold cV; rw [hnt]; exact c
        have g1 : (tV l[i]).length ≤ 4611686018427387903 := by omega
        have g2 : (lineL (l.take i)).length ≤ 4611686018427387903 := by omega
        have g3 : (tV l[i] ++ [32]).length ≤ 4611686018427387903 := by simp; omega
        have ih' := ih (i + 1) (by omega) hc' k (by omega)
        have el : lineL (l.take (i + 1)) = lineL (l.take i) ++ (tV l[i] ++ [32]) := by rw [ht, line_append]; simp [lineL]
        rw [el] at ih'
        rw [hL]
        have q1 : (encQ (tV l[i], 0)).1 = mkW (tV l[i]) := rfl
        have q2 : (encQ (tV l[i], 0)).2 = 0 := rfl
        simp only [q1, q2, bne_self_eq_false, cond_false, ba_size, ba_append, g1, g2, g3, w, ih', decide_true, Bool.and_self, cond_true, Option.bind_fun_some]
      · have hL : showL l[i].1 l[i].2.1 n l[i].2.2.2.1.data.toList = ([], checkS l[i].1 l[i].2.1 n (mkW l[i].2.2.2.1.data.toList)) := by
          unfold showL; rw [if_neg c]
        rw [hL]
        obtain ⟨k', rfl⟩ : ∃ j, k = j + 1 := ⟨k - 1, by omega⟩
        have q1 : (encQ ([], checkS l[i].1 l[i].2.1 n (mkW l[i].2.2.2.1.data.toList))).1 = mkW [] := rfl
        have q2 : (encQ ([], checkS l[i].1 l[i].2.1 n (mkW l[i].2.2.2.1.data.toList))).2 = checkS l[i].1 l[i].2.1 n (mkW l[i].2.2.2.1.data.toList) := rfl
        have sr : transomlaw36_WordsBack.s1 (k' + 1) true = some true := by
          simp only [transomlaw36_WordsBack.s1, transomlaw36_WordsBack.s1c]
        simp only [q1, q2, bne_iff_ne.2 c, cond_true, beq_self_eq_true, aw, Option.bind_some, sr]
    · rw [if_neg hs]
      simp only [aw, beq_self_eq_true, cond_true, Option.bind_some]
theorem Pure.WordsBack (x0 : List V) (h0 : Fit (.sl VT) x0) : ∃ k, transomlaw36_WordsBack.f k x0 = some true := by
  obtain ⟨k, hk⟩ : ∃ k, 9900000 ≤ k := ⟨9900000, Nat.le_refl _⟩
  refine ⟨k, ?_⟩
  have aw := awake_ge k (by omega)
  simp only [transomlaw36_WordsBack.f, transomlaw36_WordsBack.c, aw, Option.bind_some, Option.bind_fun_some]
  by_cases hl : (x0.length : Int) > 12
  · rw [decide_eq_true hl]; rfl
  · rw [decide_eq_false hl]
    have hok : ∀ v ∈ x0, okV v := by
      intro v hv
      obtain ⟨_, h2⟩ := h0
      obtain ⟨_, h3, h4, _⟩ := h2 v hv
      exact ⟨fit_i64 h3, nat_of_u64 h4⟩
    have := back_s0 x0 (by omega) hok x0.length 0 (by omega) (by simp) k (by omega)
    exact this
end Go.Proofs.Ytchlbajnmhffpaa.Aev
