import Derived.Test.YtijjlpgcpdapnaaGreatDoorTgt6

/- Rows behind a change fit its tables. No program here. -/
namespace Go.Proofs.YtijjlpgcpdapnaaGreatDoor.Aev
open Go
set_option linter.unusedVariables false
set_option linter.unusedSimpArgs false
set_option maxRecDepth 100000
theorem cv_okV {v : V} (hv : OkV v) {t : Int} (he : (cv v t).2.2.2.2 = 0) : OkV (toV (cv v t)) := by
 obtain ⟨h1, ⟨n, h2, h3⟩, b0, b1⟩ := hv
 unfold cv at he ⊢
 have hs : v.2.2.2.1.data.toList.length ≤ 100000 := by rw [← size_eq]; omega
 cases hR : toC v.1 v.2.1 v.2.2.1.toNat v.2.2.2.1.data.toList t with
 | no e =>
  rw [hR] at he
  exact absurd he (toC_no hR)
 | ok t' b m u =>
  obtain ⟨c1, c2, c3⟩ := toC_in b0 b1 (by rw [h2, Int.toNat_natCast]; exact h3) hs hR
  have c4 : (mkB u).size ≤ 2000 := by rw [ba_size]; omega
  exact ⟨c4, ⟨m, rfl, c2⟩, c1.1, c1.2⟩
theorem colK_few {c : C} (hv : OkV c.2.2.2.1) (t : Int) : FewC (colK c t) := by
 by_cases he : (cv c.2.2.2.1 t).2.2.2.2 = 0
 ·exact (cv_okV hv he).2.1
 ·unfold FewC colK
  unfold cv at he ⊢
  cases hR : toC c.2.2.2.1.1 c.2.2.2.1.2.1 c.2.2.2.1.2.2.1.toNat c.2.2.2.1.2.2.2.1.data.toList t with
  | no e => exact ⟨0, rfl, by omega⟩
  | ok t' b m u => rw [hR] at he; exact absurd rfl he
theorem fewV_ok {l : List V} (h : l.length ≤ 30) (hv : ∀ v ∈ l, OkV v) : FewV l := ⟨h, fun v q => ⟨(hv v q).1, (hv v q).2.1⟩⟩
theorem rowS_loop {c : Ch} {t : Tb} {row : List V} (fit : fitsS t.1 t.2.1 t.2.2.1 row = 0) (nm : t.1 = c.2.1) (hk : c.1 = 2 ∨ c.1 = 3 ∨ c.1 = 4 ∨ c.1 = 5 ∨ c.1 = 6) (ha : ¬ ((c.1 = 3 ∨ c.1 = 4) ∧ atC c t.2.2.1 < t.2.1)) :
  rowS t.1 t.2.1 t.2.2.1 c row = loopS c row t.2.2.1 t.2.1 (atC c t.2.2.1) [] [] 0 := by
 have hin : inB t.1 (srcS c) = true := by
  have z : ∀ l, inB c.2.1 (c.2.1 :: l) = true := by
   intro l
   unfold inB
   rw [findS_cons, if_pos rfl]; rfl
  rw [nm]
  unfold srcS
  split
  ·exact z _
  ·rw [if_pos (by omega)]; exact z _
 unfold rowS
 rw [if_neg (by simpa using fit), hin, if_neg (by simp), if_neg ha]
structure OutR (t : Tb) (row : List V) (u : Tb) (x : List V) : Prop where
 fits : fitsS u.1 u.2.1 u.2.2.1 x = 0
 keys : u.2.1 = t.2.1
 same : x.take t.2.1.toNat = row.take t.2.1.toNat
 few : FewV x
 cols : FewL u.2.2.1
def GoodR (t : Tb) (row : List V) (c : Ch) (ts : List Tb) (r : List (List V) × Int) : Prop :=
 (r.2 ≠ 0 → c.1 = 4) ∧ (r.2 = 0 → r.1.length = ts.length ∧ ∀ i (h1 : i < ts.length) (h2 : i < r.1.length), OutR t row ts[i] r.1[i])
theorem good_one {t : Tb} {row : List V} {c : Ch} {u : Tb} {x : List V} (h : OutR t row u x) : GoodR t row c [u] ([x], 0) := by
 refine ⟨fun q => absurd rfl q, fun _ => ⟨rfl, fun i h1 h2 => ?_⟩⟩
 have : i = 0 := by simp at h1; omega
 subst this
 exact h
theorem gA_mem {c : Ch} {keys at' : Int} {cols : List C} : ∀ {l : List V} {i : Nat}, ∀ v ∈ gA c keys at' cols i l, v ∈ l
 | [], _, v, h => by cases h
 | w :: l, i, v, h => by
  rw [gA, List.mem_append] at h
  rcases h with h | h
  ·unfold fA at h
   split at h
   ·cases h
   ·rw [List.mem_singleton.1 h]; exact List.mem_cons_self
  ·exact List.mem_cons_of_mem _ (gA_mem v h)
theorem gB_mem {c : Ch} {keys : Int} {cols : List C} : ∀ {l : List V} {i : Nat}, ∀ v ∈ gB c keys cols i l, v ∈ l
 | [], _, v, h => by cases h
 | w :: l, i, v, h => by
  rw [gB, List.mem_append] at h
  rcases h with h | h
  ·unfold fB at h
   split at h
   ·rw [List.mem_singleton.1 h]; exact List.mem_cons_self
   ·cases h
  ·exact List.mem_cons_of_mem _ (gB_mem v h)
theorem fewL_sub {l m : List C} (h : FewL l) (hs : m.Sublist l) : FewL m := ⟨Nat.le_trans hs.length_le h.1, fun c hc => h.2 c (hs.subset hc)⟩
theorem good_all {c : Ch} {t : Tb} {ts : List Tb} (ok : TabOK t.1 t.2.1 t.2.2.1) (ft : FewT1 t) (hd : OkV (dfl c)) (h : TgtsOK c t ts) {row : List V} (hf : FewV row) (hv : ∀ v ∈ row, OkV v) (fit : fitsS t.1 t.2.1 t.2.2.1 row = 0) (nm : t.1 = c.2.1) :
  GoodR t row c ts (rowS t.1 t.2.1 t.2.2.1 c row) := by
 obtain ⟨_, hlen, hfl⟩ := fitsS_0 fit
 have hl8 := ok.len
 have hks := ok.keys
 have ha : t.2.1 = ((t.2.1.toNat : Nat) : Int) := by omega
 have ha2 : t.2.1.toNat ≤ row.length := by omega
 rcases h with ⟨k2, _, _, _, rfl, rfl, rfl, rfl, p1, p2, p3, p4⟩ | ⟨k3, _, _, _, rfl, rfl, rfl, n, p1, p2, rfl⟩ | ⟨k4, _, _, _, rfl, rfl, rfl, n, p0, p1, p2, p3, rfl⟩ | ⟨k5, rfl, p1, p2⟩ | ⟨k6, _, _, _, rfl, rfl, p1, rfl, rfl⟩
 ·rw [rowS_loop fit nm (by omega) (by omega)]
  unfold loopS finS
  rw [if_neg (by omega), if_pos k2, gA_id (by omega) (by omega), List.drop_zero, List.nil_append]
  refine good_one ⟨?_, rfl, ?_, ?_, ?_⟩
  ·refine fitsS_of (tab_add ok p1 p2 p3) (by simp [hlen]) ((fits_app hlen.symm).2 ⟨hfl, fits_one ?_⟩)
   obtain ⟨_, _, q3, q4⟩ := colS_iff.1 p1
   refine ⟨q3, ?_⟩
   rcases q4 with q4 | q4
   ·right
    refine ⟨q4, ?_⟩
    cases hb : (colOf c).2.2.1 with
    | true => rfl
    | false => exact absurd q4 (p4 hb)
   ·exact .inl q4
  ·rw [List.take_append_of_le_length ha2]
  ·refine fewV_ok (by rw [List.length_append, List.length_singleton]; omega) fun v q => ?_
   rcases List.mem_append.1 q with q | q
   ·exact hv v q
   ·rw [List.mem_singleton.1 q]; exact hd
  ·refine ⟨by rw [List.length_append, List.length_singleton]; omega, fun d q => ?_⟩
   rcases List.mem_append.1 q with q | q
   ·exact ft.1.2 d q
   ·rw [List.mem_singleton.1 q]; exact hd.2.1
 ·have hlt := atC_lt c t.2.2.1
  rw [rowS_loop fit nm (by omega) (by omega)]
  unfold loopS finS
  rw [if_neg (by omega), if_neg (by omega), if_neg (by omega), p1, gA_del k3, if_pos (Nat.zero_le _), List.drop_zero, List.nil_append, Nat.sub_zero]
  have hx : row.take n ++ row.drop (n + 1) = del1 n row := rfl
  rw [hx]
  refine good_one ⟨?_, rfl, ?_, ?_, ?_⟩
  ·have h1 : t.2.1.toNat ≤ n := by omega
   have h2 : n < t.2.2.1.length := by omega
   exact fitsS_of (tab_sub ok ok.name (del1_sub n _) (del1_take h1 h2)) (by unfold del1; simp [hlen]) (fits_del n hlen.symm hfl)
  ·have h1 : t.2.1.toNat ≤ n := by omega
   have h2 : n < row.length := by omega
   exact del1_take h1 h2
  ·exact fewV_ok (by have := (del1_sub n row).length_le; omega) fun v q => hv v ((del1_sub n row).subset q)
  ·exact fewL_sub ft.1 (del1_sub n _)
 ·have hn : n < row.length := by omega
  rw [rowS_loop fit nm (by omega) (by omega)]
  unfold loopS
  rw [p1, if_pos ⟨k4, by omega, by omega⟩, Int.toNat_natCast, getD_at hn]
  by_cases he : (cv row[n] (knd c)).2.2.2.2 = 0
  ·have he' : (cv row[n] c.2.2.2.2.2.2.1).2.2.2.2 = 0 := he
   rw [if_neg (by simpa using he'), List.drop_zero, List.nil_append]
   have hk5 : 1 ≤ knd c ∧ knd c ≤ 5 := by
    unfold canB at p3; rw [decide_eq_true_eq] at p3; omega
   have hcol := ok.cols t.2.2.1[n] (List.getElem_mem _)
   have hcv := ft.2 t.2.2.1[n] (List.getElem_mem _)
   have hrv := hv row[n] (List.getElem_mem _)
   refine good_one ⟨?_, rfl, ?_, ?_, ?_⟩
   ·exact fitsS_of (tab_set ok p0 p2 (colK_ok hcv hcol hk5) rfl) (by rw [List.length_set, List.length_set, hlen]) (fits_set hlen.symm hfl p0 (fit_conv hrv (by have := (colS_iff.1 hcol).2.1; omega) (fits_at hlen.symm hfl p0 hn) he))
   ·rw [List.take_set_of_le (by omega)]
   ·refine fewV_ok (by rw [List.length_set]; omega) fun v q => ?_
    rcases List.mem_or_eq_of_mem_set q with q | q
    ·exact hv v q
    ·rw [q]; exact cv_okV hrv he
   ·refine ⟨by rw [List.length_set]; omega, fun d q => ?_⟩
    rcases List.mem_or_eq_of_mem_set q with q | q
    ·exact ft.1.2 d q
    ·rw [q]; exact colK_few hcv _
  ·have he' : (cv row[n] c.2.2.2.2.2.2.1).2.2.2.2 ≠ 0 := he
   rw [if_pos he']
   exact ⟨fun _ => k4, fun q => absurd q he⟩
 ·rw [rowS_loop fit nm (by omega) (by omega)]
  unfold loopS finS
  rw [if_neg (by omega), if_neg (by omega), if_pos k5, List.drop_zero, List.nil_append, List.nil_append]
  obtain ⟨a1, a2⟩ := fits_selA k5 t.2.1 (atC c t.2.2.1) t.2.2.1 t.2.2.1 row 0 rfl hlen.symm hfl
  obtain ⟨b1, b2⟩ := fits_selB k5 t.2.1 t.2.2.1 t.2.2.1 row 0 rfl hlen.symm hfl
  have sA := selA_sub t.2.1 (namesC c) t.2.2.1 0
  have sB := selB_sub t.2.1 (namesC c) t.2.2.1 0
  have gA' := gA_le c t.2.1 (atC c t.2.2.1) t.2.2.1 row 0
  have gB' := gB_le c t.2.1 t.2.2.1 row 0
  refine ⟨fun q => absurd rfl q, fun _ => ⟨rfl, fun i h1 h2 => ?_⟩⟩
  have oA : OutR t row (toN c, (t.2.1, (selA t.2.1 (namesC c) 0 t.2.2.1, ()))) (gA c t.2.1 (atC c t.2.2.1) t.2.2.1 0 row) :=
   ⟨fitsS_of (tab_sub ok p1 sA (selA_take ha (namesC c) t.2.2.1 0)) a1 a2, rfl, gA_take k5 ha t.2.2.1 row 0, fewV_ok (by omega) fun v q => hv v (gA_mem v q), fewL_sub ft.1 sA⟩
  have oB : OutR t row (alsoN c, (t.2.1, (selB t.2.1 (namesC c) 0 t.2.2.1, ()))) (gB c t.2.1 t.2.2.1 0 row) :=
   ⟨fitsS_of (tab_sub ok p2 sB (selB_take ha (namesC c) t.2.2.1 0)) b1 b2, rfl, gB_take k5 ha t.2.2.1 row 0, fewV_ok (by omega) fun v q => hv v (gB_mem v q), fewL_sub ft.1 sB⟩
  have h3 : i = 0 ∨ i = 1 := by simp at h1; omega
  rcases h3 with rfl | rfl
  ·exact oA
  ·exact oB
 ·rw [rowS_loop fit nm (by omega) (by omega)]
  unfold loopS finS
  rw [if_neg (by omega), if_neg (by omega), if_neg (by omega), gA_id (by omega) (by omega), List.drop_zero, List.nil_append]
  exact good_one ⟨fitsS_of (tab_sub ok p1 (List.Sublist.refl _) rfl) hlen hfl, rfl, rfl, hf, ft.1⟩
end Go.Proofs.YtijjlpgcpdapnaaGreatDoor.Aev
