
/- SchemaBack: a table that may be is read as it was, whatever is behind; no other one has its bytes. For every input; no conditions. -/
import Derived.Test.YtddlebbjaadbeaaDoorF10
import Derived.Test.YtddlebbjaadbeaaDoorF11
import Derived.Test.YtddlebbjaadbeaaDoorF12
import Derived.Test.YtddlebbjaadbeaaDoorTabRd
import Derived.Test.YtddlebbjaadbeaaDoorTabSame
import Derived.Test.YtddlebbjaadbeaaDoorKeyBk
namespace Go.Proofs.YtddlebbjaadbeaaDoor.Aev
open Go
set_option linter.unusedVariables false
set_option linter.unusedSimpArgs false
set_option maxRecDepth 100000
theorem awake_all (k : Nat) : transomlaw09_awake.f (k + 100) = some true := by kernel_rfl
noncomputable instance : DecidableEq C := Classical.typeDecidableEq C
/-- columns whose values' numbers are in range -/
def In64 (c : C) : Prop := -9223372036854775808 ≤ c.2.2.2.1.2.1 ∧ c.2.2.2.1.2.1 ≤ 9223372036854775807
theorem fit_in {l : List C} (h : Fit (.sl T_api_Col) l) : ∀ c ∈ l, In64 c := by
  intro c hc
  obtain ⟨_, h3⟩ := h
  obtain ⟨_, _, _, ⟨_, f4, _⟩, _⟩ := h3 c hc
  exact fit_i64 f4
theorem flag_nat (b : Bool) : ¬ 1 < (flagB b).toNat ∧ (((flagB b).toNat : Int) == 1) = b := by cases b <;> decide
theorem colR_back {c : C} (h : FewC c) (hi : In64 c) (hz : c.1.size ≤ 2000 ∧ c.2.2.2.1.2.2.2.1.size ≤ 2000) (h0 : colS c = 0) (r : List UInt8) : colR (colB c ++ r) = (c, r, 0) := by
  obtain ⟨a1, a2, a3⟩ := colS_0 h0
  obtain ⟨n, hn, hn2⟩ := h
  have hv : checkS c.2.2.2.1.1 c.2.2.2.1.2.1 n (mL c.2.2.2.1.2.2.2.1.data.toList) = 0 := by
    have a4 := a3
    unfold vchk at a4; rw [hn] at a4; rw [mL, ← ba_of c.2.2.2.1.2.2.2.1]; exact a4
  have hb : kb c.2.2.2.1 = kputI c.2.2.2.1.1 c.2.2.2.1.2.1 n c.2.2.2.1.2.2.2.1.data.toList := by unfold kb; rw [hn]; rfl
  have hk := (kread_back hn2 hi hv).1 r
  rw [← hb] at hk
  have e : colB c ++ r = encL c.1.data.toList.length ++ c.1.data.toList ++ (encL c.2.1.toNat ++ (flagB c.2.2.1 :: ((kb c.2.2.2.1).map b8 ++ r))) := by
    unfold colB
    simp only [List.append_assoc, List.cons_append, List.nil_append]
    rfl
  have ht := rdT_enc (s := c.1.data.toList) (by rw [← size_eq]; omega) (encL c.2.1.toNat ++ (flagB c.2.2.1 :: ((kb c.2.2.2.1).map b8 ++ r)))
  have hu := rdL_enc (m := c.2.1.toNat) (by omega) (flagB c.2.2.1 :: ((kb c.2.2.2.1).map b8 ++ r))
  obtain ⟨g1, g2⟩ := flag_nat c.2.2.1
  rw [e]
  unfold colR
  rw [ht]
  simp only [ne_eq, not_true, if_false]
  unfold colR2
  rw [hu]
  have g3 : ¬ 100 < c.2.1.toNat := by omega
  simp only [ne_eq, not_true, if_false, g3, colR3, g1, hk, colV, g2]
  obtain ⟨nm, kd, nl, ⟨v0, v1, v2, v3, ⟨⟩⟩, ⟨⟩⟩ := c
  simp only at hn a1 ⊢
  subst hn
  have e1 : ((kd.toNat : Nat) : Int) = kd := by omega
  rw [e1, mL, mL, ← ba_of nm, ← ba_of v3]
theorem colsR_back : ∀ (l : List C), (∀ c ∈ l, FewC c ∧ In64 c ∧ (c.1.size ≤ 2000 ∧ c.2.2.2.1.2.2.2.1.size ≤ 2000) ∧ colS c = 0) → ∀ r, colsR l.length (l.flatMap colB ++ r) = (l, r, 0)
  | [], _, r => rfl
  | c :: l, h, r => by
    obtain ⟨h1, h2, h3, h4⟩ := h c (by simp)
    have ih := colsR_back l (fun d hd => h d (by simp [hd])) r
    rw [List.flatMap_cons, List.append_assoc, List.length_cons]
    simp only [colsR, colR_back h1 h2 h3 h4, ih, ne_eq, not_true, if_false]
theorem tabR_back (nm : ByteArray) (a : Int) (l : List C) (hn : nm.size ≤ 2000) (h : ∀ c ∈ l, FewC c ∧ In64 c ∧ (c.1.size ≤ 2000 ∧ c.2.2.2.1.2.2.2.1.size ≤ 2000)) (h0 : tabS nm a l = 0) (r : List UInt8) : tabR (tabB nm a l ++ r) = (nm, a, l, mL r, 0) := by
  obtain ⟨hc, a1, a2, a3⟩ := tabS_0 h0
  have e : tabB nm a l ++ r = encL nm.data.toList.length ++ nm.data.toList ++ (encL a.toNat ++ (encL l.length ++ (l.flatMap colB ++ r))) := by
    unfold tabB headB
    simp only [List.append_assoc]
    rfl
  have ht := rdT_enc (s := nm.data.toList) (by rw [← size_eq]; omega) (encL a.toNat ++ (encL l.length ++ (l.flatMap colB ++ r)))
  have hu := rdL_enc (m := a.toNat) (by omega) (encL l.length ++ (l.flatMap colB ++ r))
  have hu2 := rdL_enc (m := l.length) (by omega) (l.flatMap colB ++ r)
  have hcs := colsR_back l (fun c hm => ⟨(h c hm).1, (h c hm).2.1, (h c hm).2.2, colsS_0 hc c hm⟩) r
  have g1 : ¬ 100 < a.toNat := by omega
  have g2 : ¬ 8 < l.length := by omega
  have e1 : ((a.toNat : Nat) : Int) = a := by omega
  have e2 : mL nm.data.toList = nm := (ba_of nm).symm
  rw [e]
  unfold tabR
  simp only [ht, hu, hu2, hcs, ne_eq, not_true, if_false, g1, g2, fin, e1, e2, List.nil_append, h0]
theorem tab_len2 (nm : ByteArray) (a : Int) (l : List C) (hn : nm.size ≤ 2000) (hz : ∀ c ∈ l, c.1.size ≤ 500 ∧ c.2.2.2.1.2.2.2.1.size ≤ 2000) (h0 : tabS nm a l = 0) : (tabB nm a l).length ≤ 90000 := by
  obtain ⟨hc, a1, a2, a3⟩ := tabS_0 h0
  obtain ⟨l1, l2, l3⟩ := head_len (n := l.length) hn ⟨a1, by omega⟩ a3
  have key : ∀ (m : List C), (∀ c ∈ m, (colB c).length ≤ 10000) → (m.flatMap colB).length ≤ m.length * 10000 := by
    intro m
    induction m with
    | nil => intro _; simp
    | cons c m ih =>
      intro hm
      have := hm c (by simp)
      have := ih (fun d hd => hm d (by simp [hd]))
      rw [List.flatMap_cons, List.length_append, List.length_cons]; omega
  have := key l (fun c hm => colB_len ⟨by have := hz c hm; omega, (hz c hm).2⟩ ⟨(colS_0 (colsS_0 hc c hm)).1, (colS_0 (colsS_0 hc c hm)).2.1⟩)
  unfold tabB headB
  simp only [List.length_append] at l1 ⊢
  omega
theorem tl_eq (x y : ByteArray) : (x.toList == y.toList) = decide (x = y) := by rw [Bool.eq_iff_iff, beq_iff_eq, decide_eq_true_iff, toList_iff]
theorem beq_dec' (a b : Int) : (a == b) = decide (a = b) := by rw [Bool.eq_iff_iff]; simp
theorem beqb_dec (a b : Bool) : (a == b) = decide (a = b) := by rw [Bool.eq_iff_iff]; simp
theorem c_ext {c d : C} : (c.1 = d.1 ∧ c.2.1 = d.2.1 ∧ c.2.2.1 = d.2.2.1 ∧ (c.2.2.2.1.1 = d.2.2.2.1.1 ∧ c.2.2.2.1.2.1 = d.2.2.2.1.2.1 ∧ c.2.2.2.1.2.2.1 = d.2.2.2.1.2.2.1 ∧ c.2.2.2.1.2.2.2.1 = d.2.2.2.1.2.2.2.1)) ↔ c = d := by
  obtain ⟨a0, a1, a2, ⟨v0, v1, v2, v3, ⟨⟩⟩, ⟨⟩⟩ := c
  obtain ⟨b0, b1, b2, ⟨w0, w1, w2, w3, ⟨⟩⟩, ⟨⟩⟩ := d
  simp
theorem eqc_s0 (l m : List C) (hlen : l.length = m.length) (hl : l.length ≤ 1000) : ∀ (j i : Nat), i + j = l.length → ∀ k, j < k → api_Col_44.s0 k l m (l.length : Int) (i : Int) = some (decide (l.drop i = m.drop i)) := by
  intro j
  induction j with
  | zero =>
    intro i hi k hk
    obtain ⟨k, rfl⟩ : ∃ j, k = j + 1 := ⟨k - 1, by omega⟩
    have e : ¬ (i : Int) < (l.length : Int) := by omega
    rw [List.drop_eq_nil_of_le (show l.length ≤ i by omega), List.drop_eq_nil_of_le (show m.length ≤ i by omega)]
    simp [api_Col_44.s0, api_Col_44.s0c, e]
  | succ j ih =>
    intro i hi k hk
    obtain ⟨k, rfl⟩ : ∃ j, k = j + 1 := ⟨k - 1, by omega⟩
    have hlt : i < l.length := by omega
    have hlt2 : i < m.length := by omega
    have e0 : (i : Int) < (l.length : Int) := by omega
    have e0' : (i : Int) < (m.length : Int) := by omega
    have e1 : (0 : Int) ≤ (i : Int) := by omega
    have e2 : IntKind.wrap IntKind.i64 ((i : Int) + 1) = ((i + 1 : Nat) : Int) := by rw [i64w (by omega) (by omega)]; omega
    have h1 := ih (i + 1) (by omega) k (by omega)
    simp only [api_Col_44.s0, api_Col_44.s0c, e0, e0', e1, e2, elem_c hlt, elem_c hlt2, h1, decide_true, Bool.and_self, Bool.and_true, cond_true, Option.bind_fun_some, List.drop_eq_getElem_cons hlt, List.drop_eq_getElem_cons hlt2, List.cons.injEq, tl_eq, beq_dec', beqb_dec]
    have key : (decide (l[i].1 = m[i].1) && (decide (l[i].2.1 = m[i].2.1) && (decide (l[i].2.2.1 = m[i].2.2.1) && (decide (l[i].2.2.2.1.1 = m[i].2.2.2.1.1) && (decide (l[i].2.2.2.1.2.1 = m[i].2.2.2.1.2.1) && (decide (l[i].2.2.2.1.2.2.1 = m[i].2.2.2.1.2.2.1) && decide (l[i].2.2.2.1.2.2.2.1 = m[i].2.2.2.1.2.2.2.1))))))) = decide (l[i] = m[i]) := by
      rw [Bool.eq_iff_iff]
      simp only [Bool.and_eq_true, decide_eq_true_eq]
      exact c_ext
    rw [key]
    by_cases c : l[i] = m[i]
    · simp [c]
    · simp [c]
theorem eqc_f (l m : List C) (hl : l.length ≤ 1000) (k : Nat) (hk : 1100 ≤ k) : api_Col_44.f k l m = some (decide (l = m)) := by
  simp only [api_Col_44.f, api_Col_44.c, Option.bind_fun_some]
  by_cases h : l.length = m.length
  · have e : ((l.length : Int) != (m.length : Int)) = false := by rw [bne_eq_false_iff_eq]; omega
    rw [e]
    exact eqc_s0 l m h hl l.length 0 (by omega) k (by omega)
  · have e : ((l.length : Int) != (m.length : Int)) = true := by rw [bne_iff_ne]; omega
    rw [e, decide_eq_false (fun q => h (by rw [q]))]; rfl
theorem ssame_f (nm : ByteArray) (a : Int) (l : List C) (nm' : ByteArray) (a' : Int) (l' : List C) (hl : l.length ≤ 1000) (k : Nat) (hk : 1100 ≤ k) : schema_Same.f k nm a l nm' a' l' = some (decide (nm = nm' ∧ a = a' ∧ l = l')) := by
  simp only [schema_Same.f, schema_Same.c, eqc_f l l' hl k hk, tl_eq, beq_dec', Option.bind_some]
  by_cases h1 : nm = nm' <;> by_cases h2 : a = a' <;> simp [h1, h2]
theorem Pure.SchemaBack (x0 : D_api_Table) (x1 : D_api_Table) (x2 : ByteArray) (h0 : Fit T_api_Table x0) (h1 : Fit T_api_Table x1) (h2 : Fit .str x2) : ∃ k, transomlaw09_SchemaBack.f k x0.1 x0.2.1 x0.2.2.1 x1.1 x1.2.1 x1.2.2.1 x2 = some true := by
  obtain ⟨k, hk⟩ : ∃ k, 220000 ≤ k := ⟨220000, Nat.le_refl _⟩
  obtain ⟨_, _, hf, _⟩ := h0
  obtain ⟨_, _, hf1, _⟩ := h1
  refine ⟨k + 1 + 1 + 1 + 1, ?_⟩
  have hfew := few09 x0.1 x0.2.1 x0.2.2.1 (k + 1 + 1 + 1 + 1) (by omega)
  have hfew1 := few09 x1.1 x1.2.1 x1.2.2.1 (k + 1 + 1 + 1 + 1) (by omega)
  have aw : ∀ j, 100 ≤ j → transomlaw09_awake.f j = some true := fun j hj => by
    obtain ⟨i, rfl⟩ : ∃ i, j = i + 100 := ⟨j - 100, by omega⟩
    exact awake_all i
  have aw3 := aw (k + 1 + 1 + 1) (by omega)
  have aw2 := aw (k + 1 + 1) (by omega)
  have aw0 := aw k (by omega)
  simp only [transomlaw09_SchemaBack.f, transomlaw09_SchemaBack.c, hfew, hfew1, Option.bind_some, Option.bind_fun_some]
  have s0t : transomlaw09_SchemaBack.s0 (k + 1 + 1 + 1 + 1) x2 true x0.1 x0.2.1 x0.2.2.1 x1.1 x1.2.1 x1.2.2.1 = some true := by
    simp only [transomlaw09_SchemaBack.s0, transomlaw09_SchemaBack.s0c, aw3, cond_true, Option.bind_some]
  by_cases hc : x0.2.2.1.length ≤ 20 ∧ x0.1.size ≤ 500 ∧ fewB x0.2.2.1
  · rw [if_pos hc]
    by_cases hc1 : x1.2.2.1.length ≤ 20 ∧ x1.1.size ≤ 500 ∧ fewB x1.2.2.1
    · rw [if_pos hc1]
      by_cases hs : x2.size ≤ 2000
      · have hl := fit_l hf hc.1 hc.2.2
        have hl1 := fit_l hf1 hc1.1 hc1.2.2
        have hi := fit_in hf
        have hi1 := fit_in hf1
        have e : ¬ (x2.size : Int) > 2000 := by omega
        have hz : ∀ c ∈ x0.2.2.1, c.1.size ≤ 2000 ∧ c.2.2.2.1.2.2.2.1.size ≤ 2000 := fun c hm => by
          have := hc.2.2 c hm
          exact ⟨by omega, this.2⟩
        have hz1 : ∀ c ∈ x1.2.2.1, c.1.size ≤ 2000 ∧ c.2.2.2.1.2.2.2.1.size ≤ 2000 := fun c hm => by
          have := hc1.2.2 c hm
          exact ⟨by omega, this.2⟩
        have hn := hc.2.1
        have hn1 := hc1.2.1
        have p0 := fun j (hj : 7000 ≤ j) => sput_f x0.1 x0.2.1 x0.2.2.1 hl (by omega) hz j hj
        have p1 := fun j (hj : 7000 ≤ j) => sput_f x1.1 x1.2.1 x1.2.2.1 hl1 (by omega) hz1 j hj
        show transomlaw09_SchemaBack.s0 (k + 1 + 1 + 1 + 1) x2 (decide ((x2.size : Int) > 2000)) x0.1 x0.2.1 x0.2.2.1 x1.1 x1.2.1 x1.2.2.1 = some true
        have t0 : transomlaw09_SchemaBack.s0 (k + 1 + 1 + 1 + 1) x2 (decide ((x2.size : Int) > 2000)) x0.1 x0.2.1 x0.2.2.1 x1.1 x1.2.1 x1.2.2.1 = transomlaw09_SchemaBack.s1 (k + 1 + 1 + 1) x2 x0.1 x0.2.1 x0.2.2.1 x1.1 x1.2.1 x1.2.2.1 := by
          simp only [transomlaw09_SchemaBack.s0, transomlaw09_SchemaBack.s0c, e, decide_false, cond_false, Option.bind_fun_some]
        rw [t0]
        have pp0 := p0 (k + 1 + 1) (by omega)
        by_cases c : tabS x0.1 x0.2.1 x0.2.2.1 = 0
        · rw [if_pos c] at pp0
          have hlen := tab_len2 x0.1 x0.2.1 x0.2.2.1 (by omega) (fun c hm => hc.2.2 c hm) c
          have back := tabR_back x0.1 x0.2.1 x0.2.2.1 (by omega) (fun c hm => ⟨hl.2 c hm, hi c hm, hz c hm⟩) c x2.data.toList
          have hx : mL (tabB x0.1 x0.2.1 x0.2.2.1) ++ x2 = mL (tabB x0.1 x0.2.1 x0.2.2.1 ++ x2.data.toList) := by
            conv => lhs; rw [ba_of x2]
            exact ba_append _ _
          have g1 : (mL (tabB x0.1 x0.2.1 x0.2.2.1)).size ≤ 4611686018427387903 := by rw [ba_size]; omega
          have g2 : x2.size ≤ 4611686018427387903 := by omega
          have hr := sread_f (tabB x0.1 x0.2.1 x0.2.2.1 ++ x2.data.toList) (by rw [List.length_append, ← size_eq]; omega) (k + 1 + 1) (by omega)
          rw [back] at hr
          have hsame := same_refl x0.1 x0.2.1 x0.2.2.1 (by omega) (k + 1 + 1) (by omega)
          have hbx : mL x2.data.toList = x2 := (ba_of x2).symm
          rw [hbx] at hr
          have t1 : transomlaw09_SchemaBack.s1 (k + 1 + 1 + 1) x2 x0.1 x0.2.1 x0.2.2.1 x1.1 x1.2.1 x1.2.2.1 = transomlaw09_SchemaBack.s4 (k + 1) (mL (tabB x0.1 x0.2.1 x0.2.2.1)) x0.1 x0.2.1 x0.2.2.1 x1.1 x1.2.1 x1.2.2.1 := by
            simp only [transomlaw09_SchemaBack.s1, transomlaw09_SchemaBack.s1c, transomlaw09_SchemaBack.s3, transomlaw09_SchemaBack.s3c, pp0, g1, g2, hx, hr, hsame, bne_self_eq_false, beq_self_eq_true, Bool.not_true, decide_true, Bool.and_self, cond_true, cond_false, Option.bind_some, Option.bind_fun_some]
          rw [t1]
          have pp1 := p1 k (by omega)
          have ss := ssame_f x0.1 x0.2.1 x0.2.2.1 x1.1 x1.2.1 x1.2.2.1 (by omega) k (by omega)
          by_cases c1 : tabS x1.1 x1.2.1 x1.2.2.1 = 0
          · rw [if_pos c1] at pp1
            have back1 := tabR_back x1.1 x1.2.1 x1.2.2.1 (by omega) (fun c hm => ⟨hl1.2 c hm, hi1 c hm, hz1 c hm⟩) c1 x2.data.toList
            have same : (mL (tabB x1.1 x1.2.1 x1.2.2.1) = mL (tabB x0.1 x0.2.1 x0.2.2.1)) ↔ (x0.1 = x1.1 ∧ x0.2.1 = x1.2.1 ∧ x0.2.2.1 = x1.2.2.1) := by
              rw [ba_inj]
              constructor
              · intro h
                rw [h, back] at back1
                simp only [Prod.mk.injEq] at back1
                exact ⟨back1.1, back1.2.1, back1.2.2.1⟩
              · rintro ⟨h, h', h''⟩
                rw [h, h', h'']
            simp only [transomlaw09_SchemaBack.s4, transomlaw09_SchemaBack.s4c, pp1, ss, aw0, tl_eq, same, bne_self_eq_false, beq_self_eq_true, cond_true, cond_false, Option.bind_some, Option.bind_fun_some]
          · rw [if_neg c1] at pp1
            simp only [transomlaw09_SchemaBack.s4, transomlaw09_SchemaBack.s4c, pp1, aw0, bne_iff_ne.2 c1, cond_true, Option.bind_some, Option.bind_fun_some]
        · rw [if_neg c] at pp0
          simp only [transomlaw09_SchemaBack.s1, transomlaw09_SchemaBack.s1c, transomlaw09_SchemaBack.s2, transomlaw09_SchemaBack.s2c, pp0, aw2, mL, bne_iff_ne.2 c, beq_self_eq_true, cond_true, Option.bind_some, Option.bind_fun_some]
      · have e : (x2.size : Int) > 2000 := by omega
        simp only [e, decide_true]
        exact s0t
    · rw [if_neg hc1]; exact s0t
  · rw [if_neg hc]; exact s0t
end Go.Proofs.YtddlebbjaadbeaaDoor.Aev
