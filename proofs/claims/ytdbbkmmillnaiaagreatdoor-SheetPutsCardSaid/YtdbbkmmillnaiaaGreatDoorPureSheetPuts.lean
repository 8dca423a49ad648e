
/- SheetPuts: any sheet whose keys rise with any row, and without any key; where any key stands: what the document says. For every input; no conditions. -/
import Derived.Test.YtdbbkmmillnaiaaGreatDoorF9
import Derived.Test.YtdbbkmmillnaiaaGreatDoorF15
import Derived.Test.YtdbbkmmillnaiaaGreatDoorF17
import Derived.Test.YtdbbkmmillnaiaaGreatDoorSheetPut
namespace Go.Proofs.YtdbbkmmillnaiaaGreatDoor.Aev
open Go
set_option linter.unusedVariables false
set_option linter.unusedSimpArgs false
set_option maxRecDepth 100000
theorem awake_all (k : Nat) : transomlaw12_awake.f (k + 100) = some true := by kernel_rfl
theorem zfind_s0 (key : ByteArray) (nm : ByteArray) (a : Int) (cols : List C) (l : List Ln) (hl : l.length ≤ 1000) : ∀ (m i : Nat), i + m = l.length → i ≤ pos l key → ∀ k, m < k →
    transomref12_Find.s0 k key (i : Int) nm a cols l = some ((pos l key : Int), isAt l key) := by
  intro m
  induction m with
  | zero =>
    intro i hi hp k hk
    obtain ⟨k, rfl⟩ : ∃ q, k = q + 1 := ⟨k - 1, by omega⟩
    have hp2 := pos_le l key
    have e : ¬ (i : Int) < (l.length : Int) := by omega
    have e2 : pos l key = l.length := by omega
    simp only [transomref12_Find.s0, transomref12_Find.s0c, e, decide_false, cond_false]
    unfold isAt
    rw [dif_neg (by omega), e2]
  | succ m ih =>
    intro i hi hp k hk
    obtain ⟨k, rfl⟩ : ∃ q, k = q + 1 := ⟨k - 1, by omega⟩
    have hlt : i < l.length := by omega
    have e0 : (i : Int) < (l.length : Int) := by omega
    have e1 : (0 : Int) ≤ (i : Int) := by omega
    have e2 : IntKind.wrap IntKind.i64 ((i : Int) + 1) = ((i + 1 : Nat) : Int) := by rw [i64w (by omega) (by omega)]; omega
    have he := elem_l hlt
    simp only [transomref12_Find.s0, transomref12_Find.s0c, e0, e1, e2, he, less_ltK, tl_dec, decide_true, Bool.and_self, cond_true, Option.bind_fun_some]
    cases c : ltK l[i].1 key with
    | true =>
      have hne : i ≠ pos l key := by
        intro h
        have := pos_at (l := l) (key := key) (by omega)
        subst h
        rw [this] at c; cases c
      exact ih (i + 1) (by omega) (by omega) k (by omega)
    | false =>
      have hpi : pos l key = i := by
        rcases Nat.lt_or_ge i (pos l key) with h | h
        · have := pos_below h hlt
          rw [this] at c; cases c
        · omega
      unfold isAt
      rw [dif_pos (by omega)]
      subst hpi
      rfl
theorem zfind_f (nm : ByteArray) (a : Int) (cols : List C) (l : List Ln) (hl : l.length ≤ 1000) (key : ByteArray) (k : Nat) (hk : 1100 ≤ k) : transomref12_Find.f k nm a cols l key = some ((pos l key : Int), isAt l key) := by
  have h := zfind_s0 key nm a cols l hl l.length 0 (by omega) (by omega) k (by omega)
  have h' : transomref12_Find.s0 k key 0 nm a cols l = some ((pos l key : Int), isAt l key) := h
  simp only [transomref12_Find.f, transomref12_Find.c, h', Option.bind_some, Option.bind_fun_some]
theorem zput_end (nm : ByteArray) (a : Int) (cols : List C) (l out : List Ln) (j : Nat) (hj : j ≤ l.length) (hl : l.length ≤ 100) (ho : out.length ≤ 200) (b : Bool) (x6 : ByteArray) (x7 : Int) (k : Nat) : transomref12_Put.s0 (k + 1) (j : Int) b nm a cols l x6 x7 out = some (nm, a, cols, out ++ l.drop j, !b, 0) := by
  have c1 : (0 : Int) ≤ (j : Int) := by omega
  have c2 : (j : Int) ≤ (l.length : Int) := by omega
  have c3 : (out.length + (l.drop j).length) * 40 ≤ 35184372088832 := by rw [List.length_drop]; omega
  simp only [transomref12_Put.s0, transomref12_Put.s0c, cut_drop, c1, c2, c3, Int.le_refl, decide_true, Bool.and_self, cond_true]
theorem zput_f (nm : ByteArray) (a : Int) (cols : List C) (hc : FewL cols) (l : List Ln) (hl : l.length ≤ 100) (v : List V) (hv : FewV v) (k : Nat) (hk : 8000 ≤ k) : transomref12_Put.f k nm a cols l v = some (putS nm a cols l v) := by
  obtain ⟨k, rfl⟩ : ∃ q, k = q + 1 := ⟨k - 1, by omega⟩
  unfold putS
  simp only [transomref12_Put.f, transomref12_Put.c, rkeyS_f nm a cols hc v hv (k + 1) (by omega), Option.bind_some, Option.bind_fun_some]
  by_cases c : (keyS nm a cols v).2 = 0
  · have hp := pos_le l (keyS nm a cols v).1
    have ha := zfind_f nm a cols l (by omega) (keyS nm a cols v).1 (k + 1) (by omega)
    have c1 : (0 : Int) ≤ ((pos l (keyS nm a cols v).1 : Nat) : Int) := by omega
    have c2 : ((pos l (keyS nm a cols v).1 : Nat) : Int) ≤ (l.length : Int) := by omega
    have c3 : (0 + (l.take (pos l (keyS nm a cols v).1)).length) * 40 ≤ 35184372088832 := by rw [List.length_take]; omega
    have c4 : ((l.take (pos l (keyS nm a cols v).1)).length + 1) * 40 ≤ 35184372088832 := by rw [List.length_take]; omega
    have ho : (l.take (pos l (keyS nm a cols v).1) ++ [((keyS nm a cols v).1, (v, ()))]).length ≤ 200 := by rw [List.length_append, List.length_take]; simp; omega
    rw [if_neg (by simp [c])]
    simp only [c, bne_self_eq_false, cond_false, ha, cut_take, c1, c2, c3, List.nil_append, c4, decide_true, Bool.and_self, cond_true, Option.bind_some]
    cases d : isAt l (keyS nm a cols v).1 with
    | true =>
      obtain ⟨hp', _⟩ := isAt_lt d
      have e2 : IntKind.wrap IntKind.i64 (((pos l (keyS nm a cols v).1 : Nat) : Int) + 1) = ((pos l (keyS nm a cols v).1 + 1 : Nat) : Int) := by rw [i64w (by omega) (by omega)]; omega
      simp only [e2, cond_true, zput_end nm a cols l _ _ hp' hl ho]
      unfold putL upto
      simp only [d, if_true, List.append_assoc, List.singleton_append]
    | false =>
      simp only [cond_false, zput_end nm a cols l _ _ hp hl ho]
      unfold putL upto
      simp only [d, Bool.false_eq_true, if_false, List.append_assoc, List.singleton_append]
  · rw [if_pos c]
    simp only [bne_iff_ne.2 c, cond_true]
theorem zdelete_f (nm : ByteArray) (a : Int) (cols : List C) (l : List Ln) (hl : l.length ≤ 100) (key : ByteArray) (k : Nat) (hk : 2000 ≤ k) : transomref12_Delete.f k nm a cols l key = some (nm, a, cols, delL l key, isAt l key) := by
  have ha := zfind_f nm a cols l (by omega) key k (by omega)
  simp only [transomref12_Delete.f, transomref12_Delete.c, ha, Option.bind_some]
  unfold delL
  cases d : isAt l key with
  | true =>
    obtain ⟨hp, _⟩ := isAt_lt d
    have e2 : IntKind.wrap IntKind.i64 (((pos l key : Nat) : Int) + 1) = ((pos l key + 1 : Nat) : Int) := by rw [i64w (by omega) (by omega)]; omega
    have c1 : (0 : Int) ≤ ((pos l key : Nat) : Int) := by omega
    have c2 : ((pos l key : Nat) : Int) ≤ (l.length : Int) := by omega
    have c3 : (0 + (l.take (pos l key)).length) * 40 ≤ 35184372088832 := by rw [List.length_take]; omega
    have c4 : (0 : Int) ≤ ((pos l key + 1 : Nat) : Int) := by omega
    have c5 : ((pos l key + 1 : Nat) : Int) ≤ (l.length : Int) := by omega
    have c6 : ((l.take (pos l key)).length + (l.drop (pos l key + 1)).length) * 40 ≤ 35184372088832 := by rw [List.length_take, List.length_drop]; omega
    simp only [e2, cut_take, cut_drop, List.nil_append, c1, c2, c3, c4, c5, c6, Int.le_refl, decide_true, Bool.and_self, Bool.not_true, cond_true, cond_false, if_true]
  | false => simp only [Bool.not_false, cond_true, Bool.false_eq_true, if_false]
theorem putS_lines {nm : ByteArray} {a : Int} {cols : List C} {l : List Ln} {v : List V} (hl : l.length ≤ 100) (h : ∀ x ∈ l, FewV x.2.1) (hv : FewV v) : ∃ l', putS nm a cols l v = (nm, a, cols, l', (putS nm a cols l v).2.2.2.2.1, (putS nm a cols l v).2.2.2.2.2) ∧ l'.length ≤ 101 ∧ ∀ x ∈ l', FewV x.2.1 := by
  unfold putS
  by_cases c : (keyS nm a cols v).2 = 0
  · rw [if_neg (by simp [c])]
    refine ⟨_, rfl, ?_, ?_⟩
    · have := putL_len l ((keyS nm a cols v).1, v, ()); omega
    · intro y hy
      rcases putL_mem hy with rfl | hy
      · exact hv
      · exact h y hy
  · rw [if_pos c]
    exact ⟨_, rfl, by omega, h⟩
theorem Pure.SheetPuts (x0 : D_api_Sheet) (x1 : List D_api_Value) (x2 : ByteArray) (h0 : Fit T_api_Sheet x0) (h1 : Fit (.sl T_api_Value) x1) (h2 : Fit .str x2) : ∃ k, transomlaw12_SheetPuts.f k x0.1.1 x0.1.2.1 x0.1.2.2.1 x0.2.1 x1 x2 = some true := by
  obtain ⟨k, hk⟩ : ∃ k, 20000 ≤ k := ⟨20000, Nat.le_refl _⟩
  obtain ⟨⟨_, _, hf, _⟩, hfl, _⟩ := h0
  refine ⟨k + 1 + 1, ?_⟩
  have hfew := few12 x0.1.1 x0.1.2.1 x0.1.2.2.1 x0.2.1 (k + 1 + 1) (by omega)
  have aw : ∀ j, 100 ≤ j → transomlaw12_awake.f j = some true := fun j hj => by
    obtain ⟨i, rfl⟩ : ∃ i, j = i + 100 := ⟨j - 100, by omega⟩
    exact awake_all i
  have aw1 := aw (k + 1) (by omega)
  have aw0 := aw k (by omega)
  have z1 : ((1 : Int) == 0) = false := rfl
  have z0 : ((0 : Int) == 0) = true := rfl
  simp only [transomlaw12_SheetPuts.f, transomlaw12_SheetPuts.c, hfew, Option.bind_some, Option.bind_fun_some]
  by_cases hc : (x0.1.2.2.1.length ≤ 20 ∧ x0.1.1.size ≤ 500 ∧ fewB x0.1.2.2.1) ∧ x0.2.1.length ≤ 40 ∧ fewLn x0.2.1
  · rw [if_pos hc]
    have hl := fit_l hf hc.1.1 hc.1.2.2
    have hv := fit_lines hfl hc.2.2
    obtain ⟨r, g1, g2, g3⟩ := rises_f x0.1.1 x0.1.2.1 x0.1.2.2.1 x0.2.1 (by omega) (k + 1 + 1) (by omega)
    have hfv := few05 x1 (k + 1 + 1) (by omega)
    simp only [z1, cond_false, g1, Option.bind_some]
    rcases g2 with rfl | rfl
    · simp only [z0, cond_true, transomlaw12_SheetPuts.s0, transomlaw12_SheetPuts.s0c, aw1, Option.bind_some]
    · have hr := g3.1 rfl
      simp only [z1, cond_false, hfv, Option.bind_some]
      by_cases d : x1.length ≤ 30 ∧ ∀ v ∈ x1, v.2.2.2.1.size ≤ 2000
      · have hw := fit_v h1 d
        rw [if_pos d]
        simp only [z1, cond_false]
        have p1 := put_f x0.1.1 x0.1.2.1 x0.1.2.2.1 hl x0.2.1 (by omega) hr x1 hw k (by omega)
        have p2 := zput_f x0.1.1 x0.1.2.1 x0.1.2.2.1 hl x0.2.1 (by omega) x1 hw k (by omega)
        have p3 := delete_f x0.1.1 x0.1.2.1 x0.1.2.2.1 x0.2.1 (by omega) hr x2 k (by omega)
        have p4 := zdelete_f x0.1.1 x0.1.2.1 x0.1.2.2.1 x0.2.1 (by omega) x2 k (by omega)
        have p5 := find_f x0.1.1 x0.1.2.1 x0.1.2.2.1 x0.2.1 x2 (by omega) hr k (by omega)
        have p6 := zfind_f x0.1.1 x0.1.2.1 x0.1.2.2.1 x0.2.1 (by omega) x2 k (by omega)
        obtain ⟨l', q1, q2, q3⟩ := putS_lines (nm := x0.1.1) (a := x0.1.2.1) (cols := x0.1.2.2.1) (l := x0.2.1) (v := x1) (by omega) hv hw
        rw [q1] at p1 p2
        have s1 := sames_f x0.1.1 x0.1.2.1 x0.1.2.2.1 (by have := hl.1; omega) l' (by omega) (few_lines q3) k (by omega)
        have hdl := delL_len x0.2.1 x2
        have s2 := sames_f x0.1.1 x0.1.2.1 x0.1.2.2.1 (by have := hl.1; omega) (delL x0.2.1 x2) (by omega) (few_lines fun y hy => hv y (delL_mem hy)) k (by omega)
        have tail : ∀ b : Bool, (bif b then transomlaw12_awake.f (k + 1) else transomlaw12_SheetPuts.s1 (k + 1) x1 x2 x0.1.1 x0.1.2.1 x0.1.2.2.1 x0.2.1) = some true := by
          intro b
          cases b with
          | true => exact aw1
          | false => simp only [cond_false, transomlaw12_SheetPuts.s1, transomlaw12_SheetPuts.s1c, p1, p2, p3, p4, p5, p6, s1, s2, aw0, beq_self_eq_true, cond_true, Option.bind_some, Option.bind_fun_some]
        have := tail (decide ((x2.size : Int) > 2000))
        simp only [transomlaw12_SheetPuts.s0, transomlaw12_SheetPuts.s0c, Option.bind_fun_some, this]
      · rw [if_neg d]
        simp only [z0, cond_true, transomlaw12_SheetPuts.s0, transomlaw12_SheetPuts.s0c, aw1, Option.bind_some]
  · rw [if_neg hc]
    simp only [z0, cond_true, transomlaw12_SheetPuts.s0, transomlaw12_SheetPuts.s0c, aw1, Option.bind_some]
end Go.Proofs.YtdbbkmmillnaiaaGreatDoor.Aev
