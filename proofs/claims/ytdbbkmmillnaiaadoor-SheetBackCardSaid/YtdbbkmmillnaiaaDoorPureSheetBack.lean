
/- SheetBack: a row that is put into a sheet that may be is there, and the sheet may be; taken away, if it was new, it leaves the sheet as it was. For every input; no conditions. -/
import Derived.Test.YtdbbkmmillnaiaaDoorF9
import Derived.Test.YtdbbkmmillnaiaaDoorF16
import Derived.Test.YtdbbkmmillnaiaaDoorSheetPut
namespace Go.Proofs.YtdbbkmmillnaiaaDoor.Aev
open Go
set_option linter.unusedVariables false
set_option linter.unusedSimpArgs false
set_option maxRecDepth 100000
theorem awake_all (k : Nat) : transomlaw12_awake.f (k + 100) = some true := by kernel_rfl
theorem Pure.SheetBack (x0 : D_api_Sheet) (x1 : List D_api_Value) (h0 : Fit T_api_Sheet x0) (h1 : Fit (.sl T_api_Value) x1) : ∃ k, transomlaw12_SheetBack.f k x0.1.1 x0.1.2.1 x0.1.2.2.1 x0.2.1 x1 = some true := by
  obtain ⟨k, hk⟩ : ∃ k, 20000 ≤ k := ⟨20000, Nat.le_refl _⟩
  obtain ⟨⟨_, _, hf, _⟩, hfl, _⟩ := h0
  refine ⟨k + 1 + 1 + 1 + 1, ?_⟩
  have hfew := few12 x0.1.1 x0.1.2.1 x0.1.2.2.1 x0.2.1 (k + 1 + 1 + 1 + 1) (by omega)
  have aw : ∀ j, 100 ≤ j → transomlaw12_awake.f j = some true := fun j hj => by
    obtain ⟨i, rfl⟩ : ∃ i, j = i + 100 := ⟨j - 100, by omega⟩
    exact awake_all i
  have aw3 := aw (k + 1 + 1 + 1) (by omega)
  have aw2 := aw (k + 1 + 1) (by omega)
  have aw0 := aw k (by omega)
  have z1 : ((1 : Int) == 0) = false := rfl
  have z0 : ((0 : Int) == 0) = true := rfl
  simp only [transomlaw12_SheetBack.f, transomlaw12_SheetBack.c, hfew, Option.bind_some, Option.bind_fun_some]
  by_cases hc : (x0.1.2.2.1.length ≤ 20 ∧ x0.1.1.size ≤ 500 ∧ fewB x0.1.2.2.1) ∧ x0.2.1.length ≤ 40 ∧ fewLn x0.2.1
  · rw [if_pos hc]
    have hl := fit_l hf hc.1.1 hc.1.2.2
    have hv := fit_lines hfl hc.2.2
    obtain ⟨r, g1, g2⟩ := check_f x0.1.1 x0.1.2.1 x0.1.2.2.1 hl x0.2.1 (by omega) hv (k + 1 + 1 + 1 + 1) (by omega)
    have hfv := few05 x1 (k + 1 + 1 + 1 + 1) (by omega)
    simp only [z1, cond_false, g1, Option.bind_some, Option.bind_fun_some]
    by_cases c : r = 0
    · have hok := g2.1 c
      have hr := hok.2.1
      simp only [c, bne_self_eq_false, cond_false, hfv, Option.bind_some]
      by_cases d : x1.length ≤ 30 ∧ ∀ v ∈ x1, v.2.2.2.1.size ≤ 2000
      · have hw := fit_v h1 d
        have p1 := put_f x0.1.1 x0.1.2.1 x0.1.2.2.1 hl x0.2.1 (by omega) hr x1 hw (k + 1 + 1) (by omega)
        rw [if_pos d]
        simp only [z1, transomlaw12_SheetBack.s0, transomlaw12_SheetBack.s0c, transomlaw12_SheetBack.s1, transomlaw12_SheetBack.s1c, p1, cond_false, Option.bind_some, Option.bind_fun_some]
        unfold putS
        by_cases e : (keyS x0.1.1 x0.1.2.1 x0.1.2.2.1 x1).2 = 0
        · have hkey : keyS x0.1.1 x0.1.2.1 x0.1.2.2.1 x1 = ((keyS x0.1.1 x0.1.2.1 x0.1.2.2.1 x1).1, 0) := Prod.ext rfl e
          have hks := keyS_f x0.1.1 x0.1.2.1 x0.1.2.2.1 hl x1 hw (k + 1 + 1) (by omega)
          rw [hkey] at hks
          rw [if_neg (by simp [e])]
          generalize (keyS x0.1.1 x0.1.2.1 x0.1.2.2.1 x1).1 = key at *
          have hpl := putL_len x0.2.1 (key, x1, ())
          have hpr := putL_rise hr (key, x1, ())
          have hpv : ∀ y ∈ putL x0.2.1 (key, x1, ()), FewV y.2.1 := by
            intro y hy
            rcases putL_mem hy with rfl | hy
            · exact hw
            · exact hv y hy
          have hfind := find_f x0.1.1 x0.1.2.1 x0.1.2.2.1 (putL x0.2.1 (key, x1, ())) key (by omega) hpr (k + 1 + 1) (by omega)
          rw [putL_pos (l := x0.2.1) (key, x1, ()), putL_isAt (l := x0.2.1) (key, x1, ())] at hfind
          obtain ⟨hat, hat2⟩ := putL_at (l := x0.2.1) (key, x1, ())
          obtain ⟨r', q1, q2⟩ := check_f x0.1.1 x0.1.2.1 x0.1.2.2.1 hl (putL x0.2.1 (key, x1, ())) (by omega) hpv (k + 1 + 1) (by omega)
          have hr0 : r' = 0 := q2.2 ⟨hok.1, hpr, fun y hy => by
            rcases putL_mem hy with rfl | hy
            · exact hkey
            · exact hok.2.2 y hy⟩
          subst hr0
          have n1 : ¬ ((pos x0.2.1 key : Nat) : Int) < 0 := by omega
          have n2 : ¬ ((pos x0.2.1 key : Nat) : Int) ≥ ((putL x0.2.1 (key, x1, ())).length : Int) := by
            have : pos x0.2.1 key < (putL x0.2.1 (key, x1, ())).length := hat
            omega
          have n3 : (0 : Int) ≤ ((pos x0.2.1 key : Nat) : Int) := by omega
          have n4 : ((pos x0.2.1 key : Nat) : Int) < ((putL x0.2.1 (key, x1, ())).length : Int) := by omega
          have hel : (elem T_api_Line (putL x0.2.1 (key, x1, ())) ((pos x0.2.1 key : Nat) : Int)).2.1 = x1 := by
            rw [elem_l (show pos x0.2.1 key < (putL x0.2.1 (key, x1, ())).length from hat)]
            exact congrArg (fun y : Ln => y.2.1) hat2
          have hsame := refSame_eq x1 x1 (by have := hw.1; omega) (k + 1 + 1) (by omega)
          have hdel := delete_f x0.1.1 x0.1.2.1 x0.1.2.2.1 (putL x0.2.1 (key, x1, ())) (by omega) hpr key k (by omega)
          rw [putL_isAt (l := x0.2.1) (key, x1, ())] at hdel
          simp only [hks, hfind, q1, bne_self_eq_false, Bool.not_true, n1, n2, n3, n4, hel, hsame, decide_true, decide_false, Bool.and_self, cond_true, cond_false, transomlaw12_SheetBack.s3, transomlaw12_SheetBack.s3c, transomlaw12_SheetBack.s4, transomlaw12_SheetBack.s4c, hdel, Bool.not_not, Option.bind_some, Option.bind_fun_some]
          cases hi : isAt x0.2.1 key with
          | true => simp only [cond_true, aw0, Option.bind_some]
          | false =>
            have hback := delL_put (l := x0.2.1) (x := (key, x1, ())) hi
            have hsm := sames_f x0.1.1 x0.1.2.1 x0.1.2.2.1 (by have := hl.1; omega) x0.2.1 (by omega) (few_lines hv) k (by omega)
            have hback' : delL (putL x0.2.1 (key, x1, ())) key = x0.2.1 := hback
            simp only [hback', hsm, cond_true, cond_false, aw0, Option.bind_some]
        · have hsm := sames_f x0.1.1 x0.1.2.1 x0.1.2.2.1 (by have := hl.1; omega) x0.2.1 (by omega) (few_lines hv) (k + 1 + 1) (by omega)
          rw [if_pos e]
          simp only [bne_iff_ne.2 e, hsm, aw2, cond_true, transomlaw12_SheetBack.s2, transomlaw12_SheetBack.s2c, Option.bind_some, Option.bind_fun_some]
      · rw [if_neg d]
        simp only [z0, cond_true, transomlaw12_SheetBack.s0, transomlaw12_SheetBack.s0c, aw3, Option.bind_some]
    · simp only [bne_iff_ne.2 c, cond_true, transomlaw12_SheetBack.s0, transomlaw12_SheetBack.s0c, aw3, Option.bind_some]
  · rw [if_neg hc]
    simp only [z0, cond_true, transomlaw12_SheetBack.s0, transomlaw12_SheetBack.s0c, aw3, Option.bind_some]
end Go.Proofs.YtdbbkmmillnaiaaDoor.Aev
