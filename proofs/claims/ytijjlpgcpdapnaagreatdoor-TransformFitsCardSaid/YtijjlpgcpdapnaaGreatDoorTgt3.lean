import Derived.Test.YtijjlpgcpdapnaaGreatDoorF6
import Derived.Test.YtijjlpgcpdapnaaGreatDoorF7
import Derived.Test.YtijjlpgcpdapnaaGreatDoorF8
import Derived.Test.YtijjlpgcpdapnaaGreatDoorF9
import Derived.Test.YtijjlpgcpdapnaaGreatDoorTgt2

/- Tables behind a change: what the program finds of them. -/
namespace Go.Proofs.YtijjlpgcpdapnaaGreatDoor.Aev
open Go
set_option linter.unusedVariables false
set_option linter.unusedSimpArgs false
set_option maxRecDepth 100000
abbrev Tb : Type := D_api_Table
theorem elem_tb {l : List Tb} {i : Nat} (h : i < l.length) : elem T_api_Table l (i : Int) = l[i] := by
 simp [elem, List.getD, List.getElem?_eq_getElem h]
def FewT1 (t : Tb) : Prop := FewL t.2.2.1 ∧ ∀ c ∈ t.2.2.1, OkV c.2.2.2.1
def FewT (l : List Tb) : Prop := l.length ≤ 20 ∧ ∀ t ∈ l, FewT1 t
theorem okC {l : List C} (h : Fit (.sl T_api_Col) l) (hb : fewB l) : ∀ c ∈ l, OkV c.2.2.2.1 := by
 intro c hc
 obtain ⟨_, h3⟩ := h
 obtain ⟨_, f2, _, ⟨_, f4, f5, _⟩, _⟩ := h3 c hc
 obtain ⟨b0, b1⟩ := fit_i64 f4
 exact ⟨(hb c hc).2, nat_u64 f5, b0, b1⟩
theorem fewT_s0 (l : List Tb) (hl : l.length ≤ 20) : ∀ (m i : Nat), i + m = l.length → ∀ k, m + 100 < k → ∃ r, transomlaw10_FewTables.s0 k l (i : Int) = some r ∧ (r = 0 ∨ ∀ t ∈ l.drop i, t.2.2.1.length ≤ 20 ∧ fewB t.2.2.1) := by
 intro m
 induction m with
 | zero =>
  intro i hi k hk
  obtain ⟨k, rfl⟩ : ∃ q, k = q + 1 := ⟨k - 1, by omega⟩
  have e : ¬ (i : Int) < (l.length : Int) := by omega
  refine ⟨1, by simp only [transomlaw10_FewTables.s0, transomlaw10_FewTables.s0c, e, decide_false, cond_false], .inr ?_⟩
  rw [List.drop_eq_nil_of_le (by omega)]; simp
 | succ m ih =>
  intro i hi k hk
  obtain ⟨k, rfl⟩ : ∃ q, k = q + 1 := ⟨k - 1, by omega⟩
  have hlt : i < l.length := by omega
  have e0 : (i : Int) < (l.length : Int) := by omega
  have e1 : (0 : Int) ≤ (i : Int) := by omega
  have e2 : IntKind.wrap IntKind.i64 ((i : Int) + 1) = ((i + 1 : Nat) : Int) := by rw [i64w (by omega) (by omega)]; omega
  have h9 := few09 l[i].1 l[i].2.1 l[i].2.2.1 k (by omega)
  obtain ⟨r, h1, h2⟩ := ih (i + 1) (by omega) k (by omega)
  simp only [transomlaw10_FewTables.s0, transomlaw10_FewTables.s0c, e0, e1, e2, elem_tb hlt, h9, h1, decide_true, Bool.and_self, cond_true, os, ofs]
  split
  ·rename_i q
   have z : ((1 : Int) == 0) = false := rfl
   simp only [z, cond_false]
   refine ⟨r, rfl, h2.imp id fun g => ?_⟩
   rw [List.drop_eq_getElem_cons hlt, List.forall_mem_cons]
   exact ⟨⟨q.1, q.2.2⟩, g⟩
  ·exact ⟨0, rfl, .inl rfl⟩
theorem fewT_f {l : List Tb} (h : Fit (.sl T_api_Table) l) {k : Nat} (hk : 200 ≤ k) : ∃ r, transomlaw10_FewTables.f k l = some r ∧ (r = 0 ∨ FewT l) := by
 by_cases c : (l.length : Int) > 20
 ·refine ⟨0, by simp only [transomlaw10_FewTables.f, transomlaw10_FewTables.c, c, decide_true, cond_true], .inl rfl⟩
 ·obtain ⟨r, h1, h2⟩ := fewT_s0 l (by omega) l.length 0 (by omega) k (by omega)
  have h1' : transomlaw10_FewTables.s0 k l 0 = some r := h1
  refine ⟨r, by simp only [transomlaw10_FewTables.f, transomlaw10_FewTables.c, c, decide_false, cond_false, h1', os], h2.imp id fun g => ⟨by omega, fun t ht => ?_⟩⟩
  obtain ⟨g1, g2⟩ := g t (by simpa using ht)
  obtain ⟨_, h3⟩ := h
  obtain ⟨_, _, f3, _⟩ := h3 t ht
  exact ⟨fit_l f3 g1 g2, okC f3 g2⟩
/-! ### the table of a name -/
def tnames (l : List Tb) : List ByteArray := l.map (·.1)
theorem tfind_s0 (l : List Tb) (s : ByteArray) (hl : l.length ≤ 1000) : ∀ (m i : Nat), i + m = l.length → ∀ k, m < k → api_Table.s0 k l (l.length : Int) (i : Int) s = some (place (findS s (tnames (l.drop i))) i, s) := by
 intro m
 induction m with
 | zero =>
  intro i hi k hk
  obtain ⟨k, rfl⟩ : ∃ q, k = q + 1 := ⟨k - 1, by omega⟩
  have e : ¬ (i : Int) < (l.length : Int) := by omega
  rw [List.drop_eq_nil_of_le (by omega)]
  simp only [api_Table.s0, api_Table.s0c, e, decide_false, cond_false]
  rfl
 | succ m ih =>
  intro i hi k hk
  obtain ⟨k, rfl⟩ : ∃ q, k = q + 1 := ⟨k - 1, by omega⟩
  have hlt : i < l.length := by omega
  have e0 : (i : Int) < (l.length : Int) := by omega
  have e1 : (0 : Int) ≤ (i : Int) := by omega
  have e2 : IntKind.wrap IntKind.i64 ((i : Int) + 1) = ((i + 1 : Nat) : Int) := by rw [i64w (by omega) (by omega)]; omega
  have hc : tnames (l.drop i) = l[i].1 :: tnames (l.drop (i + 1)) := by rw [List.drop_eq_getElem_cons hlt]; rfl
  have hf : change_Find_1.f k l[i].1 l[i].2.1 l[i].2.2.1 s = some (decide (l[i].1 = s), s) := by simp only [change_Find_1.f, change_Find_1.c, beq_toList]
  have h1 := ih (i + 1) (by omega) k (by omega)
  rw [hc, findS_cons]
  simp only [api_Table.s0, api_Table.s0c, e0, e1, e2, elem_tb hlt, hf, h1, decide_true, Bool.and_self, cond_true, os]
  by_cases q : l[i].1 = s
  ·rw [decide_eq_true q, cond_true, if_pos q]
  ·rw [decide_eq_false q, cond_false, if_neg q]
theorem tfind (l : List Tb) (s : ByteArray) (hl : l.length ≤ 1000) (k : Nat) (hk : 1100 ≤ k) : change_Find.f k l s = some (place (findS s (tnames l)) 0) := by
 have h := tfind_s0 l s hl l.length 0 (by omega) k (by omega)
 have h' : api_Table.s0 k l (l.length : Int) 0 s = some (place (findS s (tnames l)) 0, s) := h
 simp only [change_Find.f, change_Find.c, api_Table.f, api_Table.c, h', os]
theorem place_get {s : ByteArray} {l : List ByteArray} (h : 0 ≤ place (findS s l) 0) : ∃ n, ∃ hn : n < l.length, place (findS s l) 0 = (n : Int) ∧ l[n] = s := by
 unfold findS at h ⊢
 cases e : l.findIdx? fun x => decide (x = s) with
 | none => rw [e] at h; simp [place] at h
 | some j =>
  obtain ⟨h1, h2, _⟩ := List.findIdx?_eq_some_iff_getElem.1 e
  exact ⟨j, h1, by simp [place], by simpa using h2⟩
theorem place_neg {s : ByteArray} {l : List ByteArray} (h : ¬ 0 ≤ place (findS s l) 0) : s ∉ l := by
 unfold findS at h
 cases e : l.findIdx? fun x => decide (x = s) with
 | none =>
  rw [List.findIdx?_eq_none_iff] at e
  intro hs
  simpa using e s hs
 | some j => rw [e] at h; simp [place] at h
theorem tab_get {l : List Tb} {s : ByteArray} (h : 0 ≤ place (findS s (tnames l)) 0) : ∃ n, ∃ hn : n < l.length, place (findS s (tnames l)) 0 = (n : Int) ∧ l[n].1 = s := by
 obtain ⟨n, hn, h1, h2⟩ := place_get h
 have hn' : n < l.length := by simpa [tnames] using hn
 exact ⟨n, hn', h1, by simpa [tnames] using h2⟩
/-! ### whether the tables may be -/
theorem chk_s1 (l : List Tb) (hl : l.length ≤ 1000) : ∀ (m i : Nat), i + m = l.length → ∀ k, 3 * m < k → ∃ e, change_CheckAll.s1 k l (l.length : Int) (i : Int) = some e := by
 intro m
 induction m with
 | zero =>
  intro i hi k hk
  obtain ⟨k, rfl⟩ : ∃ q, k = q + 1 := ⟨k - 1, by omega⟩
  have e : ¬ (i : Int) < (l.length : Int) := by omega
  exact ⟨0, by simp only [change_CheckAll.s1, change_CheckAll.s1c, e, decide_false, cond_false]⟩
 | succ m ih =>
  intro i hi k hk
  obtain ⟨k, rfl⟩ : ∃ q, k = q + 3 := ⟨k - 3, by omega⟩
  have hlt : i < l.length := by omega
  have e0 : (i : Int) < (l.length : Int) := by omega
  have e1 : (0 : Int) ≤ (i : Int) := by omega
  have e2 : IntKind.wrap IntKind.i64 ((i : Int) + 1) = ((i + 1 : Nat) : Int) := by rw [i64w (by omega) (by omega)]; omega
  obtain ⟨r, h1⟩ := ih (i + 1) (by omega) k (by omega)
  have h3 : change_CheckAll.s3 (k + 1) l (l.length : Int) (i : Int) = some r := by simp only [change_CheckAll.s3, change_CheckAll.s3c, e2, h1, os]
  have h2 : ∀ b, ∃ e, change_CheckAll.s2 (k + 2) l (l.length : Int) (i : Int) b = some e := by
   intro b
   cases b with
   | false => exact ⟨r, by rw [change_CheckAll.s2]; simp only [change_CheckAll.s2c, cond_false, h3, os]⟩
   | true => exact ⟨12, by rw [change_CheckAll.s2]; simp only [change_CheckAll.s2c, cond_true]⟩
  rw [change_CheckAll.s1]
  by_cases q : (i : Int) > 0
  ·have w0 : IntKind.wrap IntKind.i64 ((i : Int) - 1) = ((i - 1 : Nat) : Int) := by rw [i64w (by omega) (by omega)]; omega
   have w1 : (0 : Int) ≤ ((i - 1 : Nat) : Int) := by omega
   have w2 : ((i - 1 : Nat) : Int) < (l.length : Int) := by omega
   simp only [change_CheckAll.s1c, e0, e1, q, w0, w1, w2, decide_true, Bool.and_self, cond_true, ofs]
   exact h2 _
  ·simp only [change_CheckAll.s1c, e0, q, decide_true, decide_false, cond_true, cond_false, ofs]
   exact h2 _
theorem chk_s0 (l : List Tb) (hl : FewT l) : ∀ (m i : Nat), i + m = l.length → ∀ k, m + 8000 < k → ∃ e, change_CheckAll.s0 k l l (l.length : Int) (i : Int) = some e ∧ (e = 0 → ∀ t ∈ l.drop i, TabOK t.1 t.2.1 t.2.2.1) := by
 have hl1 := hl.1
 intro m
 induction m with
 | zero =>
  intro i hi k hk
  obtain ⟨k, rfl⟩ : ∃ q, k = q + 1 := ⟨k - 1, by omega⟩
  have e : ¬ (i : Int) < (l.length : Int) := by omega
  obtain ⟨r, h1⟩ := chk_s1 l (by omega) l.length 0 (by omega) k (by omega)
  have h1' : change_CheckAll.s1 k l (l.length : Int) 0 = some r := h1
  refine ⟨r, by rw [change_CheckAll.s0]; simp only [change_CheckAll.s0c, e, decide_false, cond_false, h1', os], fun _ => ?_⟩
  rw [List.drop_eq_nil_of_le (by omega)]; simp
 | succ m ih =>
  intro i hi k hk
  obtain ⟨k, rfl⟩ : ∃ q, k = q + 1 := ⟨k - 1, by omega⟩
  have hlt : i < l.length := by omega
  have e0 : (i : Int) < (l.length : Int) := by omega
  have e1 : (0 : Int) ≤ (i : Int) := by omega
  have e2 : IntKind.wrap IntKind.i64 ((i : Int) + 1) = ((i + 1 : Nat) : Int) := by rw [i64w (by omega) (by omega)]; omega
  obtain ⟨r, h1, h2⟩ := ih (i + 1) (by omega) k (by omega)
  have hs := scheck_f l[i].1 l[i].2.1 (hl.2 l[i] (List.getElem_mem hlt)).1 (k := k) (by omega)
  rw [change_CheckAll.s0]
  simp only [change_CheckAll.s0c, e0, e1, e2, elem_tb hlt, hs, h1, decide_true, Bool.and_self, cond_true, os]
  by_cases q : tabS l[i].1 l[i].2.1 l[i].2.2.1 = 0
  ·have q' : (tabS l[i].1 l[i].2.1 l[i].2.2.1 != 0) = false := by rw [q]; rfl
   rw [q', cond_false]
   refine ⟨r, rfl, fun z => ?_⟩
   rw [List.drop_eq_getElem_cons hlt, List.forall_mem_cons]
   exact ⟨tab_iff.1 q, h2 z⟩
  ·have q' : (tabS l[i].1 l[i].2.1 l[i].2.2.1 != 0) = true := bne_iff_ne.2 q
   rw [q', cond_true]
   exact ⟨_, rfl, fun z => absurd z q⟩
theorem chk_f (l : List Tb) (hl : FewT l) (k : Nat) (hk : 9000 ≤ k) : ∃ e, change_CheckAll.f k l = some e ∧ (e = 0 → ∀ t ∈ l, TabOK t.1 t.2.1 t.2.2.1) := by
 have hl1 := hl.1
 by_cases c : (l.length : Int) > 16
 ·exact ⟨2, by simp only [change_CheckAll.f, change_CheckAll.c, c, decide_true, cond_true], fun h => by cases h⟩
 ·obtain ⟨r, h1, h2⟩ := chk_s0 l hl l.length 0 (by omega) k (by omega)
  have h1' : change_CheckAll.s0 k l l (l.length : Int) 0 = some r := h1
  exact ⟨r, by simp only [change_CheckAll.f, change_CheckAll.c, c, decide_false, cond_false, h1', os], fun z t ht => h2 z t (by simpa using ht)⟩
/-! ### the change's kinds -/
abbrev colOf (c : Ch) : C := c.2.2.2.2.2.2.2.2.1
abbrev OneT : Type := Int ⊕ (Int × ByteArray × Int × List C)
def OneR (P : ByteArray → Int → List C → Prop) : OneT → Prop
 | .inl e => e ≠ 0
 | .inr q => q.1 = 0 ∧ 1 ≤ q.2.2.2.length ∧ q.2.2.2.length ≤ 1000 ∧ P q.2.1 q.2.2.1 q.2.2.2
theorem one_eq (nm : ByteArray) (a : Int) (l : List C) (e : Int) (k : Nat) : change_one.f k nm a l e = some (if e = 0 then .inr (0, nm, a, l) else .inl e) := by
 by_cases q : e = 0
 ·have q' : (e != 0) = false := by rw [q]; rfl
  simp only [change_one.f, change_one.c, q', cond_false, if_pos q]
 ·have q' : (e != 0) = true := bne_iff_ne.2 q
  simp only [change_one.f, change_one.c, q', cond_true, if_neg q]
theorem clone_eq {l : List C} (h : 1 ≤ l.length) (h2 : l.length ≤ 1000) (k : Nat) : api_Col_42.f k l = some l := if_pos ⟨h, by omega⟩
theorem ends_one (nm : ByteArray) (a : Int) (l : List C) (e : Int) (f : Int → Option OneT) (hf : f = fun r2 => some (.inl r2)) (g : (Int × ByteArray × Int × List C) → Option OneT) (hg : g = fun r3 => some (.inr (r3.1, r3.2.1, r3.2.2.1, r3.2.2.2))) :
  Sum.elim f g (if e = 0 then .inr (0, nm, a, l) else .inl e) = some (if e = 0 then .inr (0, nm, a, l) else .inl e) := by
 subst hf hg
 split <;> rfl
theorem create_t (c : Ch) (hc : FewL c.2.2.2.2.2.2.2.2.2.1.2.2.1) (fr : List Tb) (k : Nat) (hk : 7000 ≤ k) : ∃ r, change_create_targets.f k c fr = some r ∧ OneR (fun _ _ _ => True) r := by
 have hs := scheck_f c.2.2.2.2.2.2.2.2.2.1.1 c.2.2.2.2.2.2.2.2.2.1.2.1 hc hk
 refine ⟨if tabS c.2.2.2.2.2.2.2.2.2.1.1 c.2.2.2.2.2.2.2.2.2.1.2.1 c.2.2.2.2.2.2.2.2.2.1.2.2.1 = 0 then .inr (0, c.2.2.2.2.2.2.2.2.2.1.1, c.2.2.2.2.2.2.2.2.2.1.2.1, c.2.2.2.2.2.2.2.2.2.1.2.2.1) else .inl (tabS c.2.2.2.2.2.2.2.2.2.1.1 c.2.2.2.2.2.2.2.2.2.1.2.1 c.2.2.2.2.2.2.2.2.2.1.2.2.1), ?_, ?_⟩
 ·simp only [change_create_targets.f, change_create_targets.c, hs, one_eq, os]
  exact ends_one _ _ _ _ _ rfl _ rfl
 ·split
  ·rename_i q
   have := tab_len q
   have h1 : 1 ≤ c.2.2.2.2.2.2.2.2.2.1.2.2.1.length := by omega
   have h2 : c.2.2.2.2.2.2.2.2.2.1.2.2.1.length ≤ 1000 := by omega
   exact ⟨rfl, h1, h2, trivial⟩
  ·rename_i q; exact q
def P2 (c : Ch) (t : Tb) (nm : ByteArray) (a : Int) (cols : List C) : Prop := nm = t.1 ∧ a = t.2.1 ∧ cols = t.2.2.1 ++ [colOf c] ∧ colS (colOf c) = 0 ∧ (colOf c).1 ∉ namesOf t.2.2.1 ∧ t.2.2.1.length < 8 ∧ ((colOf c).2.2.1 = false → (dfl c).1 ≠ 0)
theorem add_s1 (c : Ch) (t : Tb) (ok : TabOK t.1 t.2.1 t.2.2.1) (e : Int) (k : Nat) : change_add_targets.s1 (k + 1) e c t.1 t.2.1 t.2.2.1 = some (if e = 0 then .inr (0, t.1, t.2.1, t.2.2.1 ++ [colOf c]) else .inl e) := by
 have := ok.len
 have z : (t.2.2.1.length + 1) * 72 ≤ 2 ^ 45 := by omega
 simp only [change_add_targets.s1, change_add_targets.s1c, clone_eq (show 1 ≤ t.2.2.1.length by omega) (by omega), z, decide_true, cond_true, one_eq, os]
 exact ends_one _ _ _ _ _ rfl _ rfl
theorem add_t (c : Ch) (hc : FewC (colOf c)) (t : Tb) (ht : FewT1 t) (ok : TabOK t.1 t.2.1 t.2.2.1) (k : Nat) (hk : 7000 ≤ k) : ∃ r, change_add_targets.f k c [t] = some r ∧ OneR (P2 c t) r := by
 obtain ⟨k, rfl⟩ : ∃ q, k = q + 2 := ⟨k - 2, by omega⟩
 have hl := ok.len
 have z : (true && decide ((0 : Int) < (([t] : List Tb).length : Int))) = true := rfl
 have hE : elem T_api_Table [t] (0 : Int) = t := rfl
 have h1 := checkCol_f hc (k := k + 2) (by omega)
 have h2 := sfind_f t.1 t.2.1 t.2.2.1 (colOf c).1 (by omega) (k + 2) (by omega)
 have s1 : ∀ e, change_add_targets.s1 (k + 2) e c t.1 t.2.1 t.2.2.1 = some (if e = 0 then .inr (0, t.1, t.2.1, t.2.2.1 ++ [colOf c]) else .inl e) := fun e => add_s1 c t ok e (k + 1)
 have s0 : ∀ b, change_add_targets.s0 (k + 2) 0 b c t.1 t.2.1 t.2.2.1 = some (if b = true then .inl 11 else .inr (0, t.1, t.2.1, t.2.2.1 ++ [colOf c])) := by
  intro b
  rw [change_add_targets.s0]
  cases b with
  | true => simp only [change_add_targets.s0c, cond_true, add_s1 c t ok, os]; rfl
  | false => simp only [change_add_targets.s0c, cond_false, add_s1 c t ok, os]; rfl
 simp only [change_add_targets.f, change_add_targets.c, z, hE, h1, h2, cond_true, os]
 have he : ∀ e : Int, e ≠ 0 → ∃ r, (change_add_targets.s1 (k + 2) e c t.1 t.2.1 t.2.2.1).bind some = some r ∧ OneR (P2 c t) r := by
  intro e h
  rw [s1 e, if_neg h]
  exact ⟨_, rfl, h⟩
 by_cases q1 : colS (colOf c) = 0
 ·have q1' : (colS (colOf c) != 0) = false := by rw [q1]; rfl
  rw [q1', cond_false]
  by_cases q2 : place (findS (colOf c).1 (namesOf t.2.2.1)) 0 ≥ 0
  ·rw [decide_eq_true q2, cond_true]; exact he 12 (by decide)
  ·rw [decide_eq_false q2, cond_false]
   by_cases q3 : (t.2.2.1.length : Int) ≥ 8
   ·rw [decide_eq_true q3, cond_true]; exact he 2 (by decide)
   ·rw [decide_eq_false q3, cond_false, q1]
    have hP : ((colOf c).2.2.1 = false → (dfl c).1 ≠ 0) → OneR (P2 c t) (.inr (0, t.1, t.2.1, t.2.2.1 ++ [colOf c])) := by
     intro h
     have e : (t.2.2.1 ++ [colOf c]).length = t.2.2.1.length + 1 := by simp
     exact ⟨rfl, by show 1 ≤ (t.2.2.1 ++ [colOf c]).length; omega, by show (t.2.2.1 ++ [colOf c]).length ≤ 1000; omega, rfl, rfl, rfl, q1, place_neg q2, by omega, h⟩
    cases q4 : (colOf c).2.2.1 with
    | true =>
     rw [Bool.not_true, cond_false, s0 false, if_neg (by simp)]
     exact ⟨_, rfl, hP (fun h => by rw [q4] at h; cases h)⟩
    | false =>
     rw [Bool.not_false, cond_true, s0 _]
     by_cases q5 : c.2.2.2.2.2.2.2.2.1.2.2.2.1.1 = 0
     ·rw [if_pos (beq_iff_eq.2 q5)]
      exact ⟨_, rfl, by show (11 : Int) ≠ 0; decide⟩
     ·rw [if_neg (by simpa using q5)]
      exact ⟨_, rfl, hP (fun _ => q5)⟩
 ·have q1' : (colS (colOf c) != 0) = true := bne_iff_ne.2 q1
  rw [q1', cond_true]
  exact he _ q1
end Go.Proofs.YtijjlpgcpdapnaaGreatDoor.Aev
