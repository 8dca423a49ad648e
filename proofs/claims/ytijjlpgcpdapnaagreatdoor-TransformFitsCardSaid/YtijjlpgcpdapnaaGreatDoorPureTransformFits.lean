import Derived.Test.YtijjlpgcpdapnaaGreatDoorF6
import Derived.Test.YtijjlpgcpdapnaaGreatDoorF11
import Derived.Test.YtijjlpgcpdapnaaGreatDoorTgt7

/- TransformFits: what a row becomes behind a change fits the tables that the change makes, and keeps its key. For every input; no conditions. -/
namespace Go.Proofs.YtijjlpgcpdapnaaGreatDoor.Aev
open Go
set_option linter.unusedVariables false
set_option linter.unusedSimpArgs false
set_option maxRecDepth 100000
theorem awake_all (k : Nat) : transomlaw11_awake.f (k + 300) = some true := by kernel_rfl
theorem aw (j : Nat) (hj : 300 ≤ j) : transomlaw11_awake.f j = some true := by
 obtain ⟨i, rfl⟩ : ∃ i, j = i + 300 := ⟨j - 300, by omega⟩
 exact awake_all i
theorem few10' (c : Ch) (k : Nat) (hk : 200 ≤ k) : ∃ r, transomlaw10_Few.f k c = some r ∧ (r = 0 ∨ (namesC c).length ≤ 60 ∧ (c.2.2.2.2.2.2.2.2.2.1.2.2.1.length ≤ 20 ∧ fewB c.2.2.2.2.2.2.2.2.2.1.2.2.1) ∧ (dfl c).2.2.2.1.size ≤ 2000) := by
 obtain ⟨r1, h1, g1⟩ := few08 c.2.2.2.2.2.2.2.1 k (by omega)
 obtain ⟨r2, h2, g2⟩ := few08 [c.2.1, c.2.2.1, c.2.2.2.1, c.2.2.2.2.1, c.2.2.2.2.2.1, c.2.2.2.2.2.2.2.2.1.1] k (by omega)
 have h3 := few09 c.2.2.2.2.2.2.2.2.2.1.1 c.2.2.2.2.2.2.2.2.2.1.2.1 c.2.2.2.2.2.2.2.2.2.1.2.2.1 k (by omega)
 have h4 := few04' c.2.2.2.2.2.2.2.2.1.2.2.2.1.1 c.2.2.2.2.2.2.2.2.1.2.2.2.1.2.1 c.2.2.2.2.2.2.2.2.1.2.2.2.1.2.2.1 c.2.2.2.2.2.2.2.2.1.2.2.2.1.2.2.2.1 k
 simp only [transomlaw10_Few.f, transomlaw10_Few.c, h1, h2, h3, h4, os]
 by_cases c1 : r1 = 0
 ·simp only [c1, beq_self_eq_true, cond_true]; exact ⟨0, rfl, .inl rfl⟩
 ·have g := g1.resolve_left c1
  by_cases c2 : r2 = 0
  ·simp only [beq_eq_false_iff_ne.2 c1, c2, beq_self_eq_true, cond_true, cond_false]; exact ⟨0, rfl, .inl rfl⟩
  ·simp only [beq_eq_false_iff_ne.2 c1, beq_eq_false_iff_ne.2 c2, cond_false]
   have z1 : ((1 : Int) == 0) = false := rfl
   have z0 : ((0 : Int) == 0) = true := rfl
   split
   ·rename_i q
    simp only [z1, cond_false]
    split
    ·rename_i q2
     simp only [z1, cond_false]; exact ⟨1, rfl, .inr ⟨g, ⟨q.1, q.2.2⟩, q2⟩⟩
    ·simp only [z0, cond_true]; exact ⟨0, rfl, .inl rfl⟩
   ·simp only [z0, cond_true]; exact ⟨0, rfl, .inl rfl⟩
theorem s0_t (l : List Tb) (row : List V) (c : Ch) (j : Nat) (hj : 301 ≤ j) : transomlaw11_TransformFits.s0 j l row true c = some true := by
 obtain ⟨i, rfl⟩ : ∃ i, j = i + 1 := ⟨j - 1, by omega⟩
 rw [transomlaw11_TransformFits.s0]
 simp only [transomlaw11_TransformFits.s0c, aw i (by omega), cond_true, os]
theorem s2_t (l : List Tb) (row : List V) (ts : List Tb) (c : Ch) (j : Nat) (hj : 301 ≤ j) : transomlaw11_TransformFits.s2 j l row ts true c = some true := by
 obtain ⟨i, rfl⟩ : ∃ i, j = i + 1 := ⟨j - 1, by omega⟩
 rw [transomlaw11_TransformFits.s2]
 simp only [transomlaw11_TransformFits.s2c, aw i (by omega), cond_true, os]
theorem key_of {t : Tb} {row : List V} {u : Tb} {x : List V} (h : OutR t row u x) (hf : FewV row) (ft : FewL t.2.2.1) (fit : fitsS t.1 t.2.1 t.2.2.1 row = 0) : ∃ b, ∀ k k', 7000 ≤ k → 7000 ≤ k' → schema_Key.f k t.1 t.2.1 t.2.2.1 row = some (b, 0) ∧ schema_Key.f k' u.1 u.2.1 u.2.2.1 x = some (b, 0) := by
 obtain ⟨_, hlen, hfl⟩ := fitsS_0 fit
 have hz := krow_ok (l := row.take t.2.1.toNat) (fun v q => fits_chk hfl (by omega) v (List.mem_of_mem_take q))
 have key : ∀ k, 7000 ≤ k → ∃ b, keycode_Row.f k (row.take t.2.1.toNat) = some (b, 0) ∧ b.data.toList = (krow (row.take t.2.1.toNat)).1 := by
  intro k hk
  obtain ⟨b, h1, h2⟩ := kRow_eq (few_take hf t.2.1.toNat) k hk
  rw [hz] at h1
  rw [if_pos hz] at h2
  exact ⟨b, h1, h2⟩
 obtain ⟨b, _, h2⟩ := key 7000 (Nat.le_refl _)
 refine ⟨b, fun k k' hk hk' => ⟨?_, ?_⟩⟩
 ·obtain ⟨b', g1, g2⟩ := key k hk
  rw [(skey_f row hf t.2.2.1 ft t.1 t.2.1 k hk).2 fit, g1, ba_ext (g2.trans h2.symm)]
 ·obtain ⟨b', g1, g2⟩ := key k' hk'
  rw [(skey_f x h.few u.2.2.1 h.cols u.1 u.2.1 k' hk').2 h.fits, h.keys, h.same, g1, ba_ext (g2.trans h2.symm)]
theorem s8_f {t : Tb} {row : List V} {ts : List Tb} {rs : List (List V)} (hlen : rs.length = ts.length) (hl : rs.length ≤ 1000) (h : ∀ i (h1 : i < ts.length) (h2 : i < rs.length), OutR t row ts[i] rs[i]) {b : ByteArray}
  (hb : ∀ i (h1 : i < ts.length) (h2 : i < rs.length) k, 7000 ≤ k → schema_Key.f k ts[i].1 ts[i].2.1 ts[i].2.2.1 rs[i] = some (b, 0)) : ∀ (m i : Nat), i + m = rs.length → ∀ k, 3 * m + 8000 < k → transomlaw11_TransformFits.s8 k ts rs b (i : Int) = some true := by
 intro m
 induction m with
 | zero =>
  intro i hi k hk
  obtain ⟨k, rfl⟩ : ∃ q, k = q + 1 := ⟨k - 1, by omega⟩
  have e : ¬ (i : Int) < (rs.length : Int) := by omega
  rw [transomlaw11_TransformFits.s8]
  simp only [transomlaw11_TransformFits.s8c, e, decide_false, cond_false, aw k (by omega), os]
 | succ m ih =>
  intro i hi k hk
  obtain ⟨k, rfl⟩ : ∃ q, k = q + 3 := ⟨k - 3, by omega⟩
  have hlt : i < rs.length := by omega
  have hlt2 : i < ts.length := by omega
  have e0 : (i : Int) < (rs.length : Int) := by omega
  have e0' : (i : Int) < (ts.length : Int) := by omega
  have e1 : (0 : Int) ≤ (i : Int) := by omega
  have e2 : IntKind.wrap IntKind.i64 ((i : Int) + 1) = ((i + 1 : Nat) : Int) := by rw [i64w (by omega) (by omega)]; omega
  have he : elem (Ty.sl T_api_Value) rs (i : Int) = rs[i] := by simp [elem, List.getD, List.getElem?_eq_getElem hlt]
  have h1 := ih (i + 1) (by omega) k (by omega)
  have h10 : transomlaw11_TransformFits.s10 (k + 1) ts rs b (i : Int) = some true := by
   rw [transomlaw11_TransformFits.s10]
   simp only [transomlaw11_TransformFits.s10c, e2, h1, os]
  have h9 : transomlaw11_TransformFits.s9 (k + 2) ts rs b (i : Int) false = some true := by
   rw [transomlaw11_TransformFits.s9]
   simp only [transomlaw11_TransformFits.s9c, cond_false, h10, os]
  have z : ((0 : Int) != 0) = false := rfl
  have zb : (!(b.toList == b.toList)) = false := by rw [beq_self_eq_true]; rfl
  rw [transomlaw11_TransformFits.s8]
  simp only [transomlaw11_TransformFits.s8c, e0, e0', e1, elem_tb hlt2, he, hb i hlt2 hlt (k + 2) (by omega), z, zb, h9, decide_true, Bool.and_self, cond_true, cond_false, os]
theorem s3_f {l : List Tb} (hl : FewT l) {c : Ch} (hn : (namesC c).length ≤ 60) (hd : OkV (dfl c)) {row : List V} (hf : FewV row) (hv : ∀ v ∈ row, OkV v) {ts : List Tb} {n : Nat} (hlt : n < l.length) (hp : place (findS c.2.1 (tnames l)) 0 = (n : Int)) (hnm : l[n].1 = c.2.1) (ok : TabOK l[n].1 l[n].2.1 l[n].2.2.1) (h : TgtsOK c l[n] ts) (k : Nat) (hk : 15000 ≤ k) :
  transomlaw11_TransformFits.s3 k l row ts c = some true := by
 obtain ⟨k, rfl⟩ : ∃ q, k = q + 4 := ⟨k - 4, by omega⟩
 have hl1 := hl.1
 have ft := hl.2 l[n] (List.getElem_mem hlt)
 have d1 : (0 : Int) ≤ (n : Int) := by omega
 have d2 : (n : Int) < (l.length : Int) := by omega
 have d3 : ¬ (n : Int) < 0 := by omega
 have d4 : (n : Int) ≥ 0 := by omega
 have z0 : ((0 : Int) != 0) = false := rfl
 have hfit := sfits_f row hf l[n].2.2.1 ft.1 l[n].1 l[n].2.1 (k + 3) (by omega)
 rw [transomlaw11_TransformFits.s3]
 simp only [transomlaw11_TransformFits.s3c, tfind l c.2.1 (by omega) (k + 3) (by omega), hp, d1, d2, d3, elem_tb hlt, hfit, decide_true, decide_false, Bool.and_self, cond_true, cond_false, os, ofs]
 by_cases fit : fitsS l[n].1 l[n].2.1 l[n].2.2.1 row = 0
 ·rw [fit, z0, transomlaw11_TransformFits.s4]
  simp only [transomlaw11_TransformFits.s4c, cond_false, ofs]
  rw [transomlaw11_TransformFits.s6]
  have hrow := prow_eq l[n].1 l[n].2.1 l[n].2.2.1 ft.1 c hn row hf hv (k + 1) (by omega)
  have g := good_all ok ft hd h hf hv fit hnm
  obtain ⟨w1, w2⟩ := rowS_few l[n].1 l[n].2.1 l[n].2.2.1 c row hf
  simp only [transomlaw11_TransformFits.s6c, d1, d2, elem_tb hlt, hrow, decide_true, Bool.and_self, cond_true, os, ofs]
  by_cases e0 : (rowS l[n].1 l[n].2.1 l[n].2.2.1 c row).2 = 0
  ·obtain ⟨hlen, ho⟩ := g.2 e0
   have e0' : ((rowS l[n].1 l[n].2.1 l[n].2.2.1 c row).2 != 0) = false := by rw [e0]; rfl
   have hlen' : (((rowS l[n].1 l[n].2.1 l[n].2.2.1 c row).1.length : Int) != (ts.length : Int)) = false := by rw [hlen]; simp
   rw [e0', cond_false, hlen', cond_false]
   have hts : 1 ≤ ts.length := by
    rcases h with ⟨_, _, _, _, rfl, _⟩ | ⟨_, _, _, _, rfl, _⟩ | ⟨_, _, _, _, rfl, _⟩ | ⟨_, rfl, _⟩ | ⟨_, _, _, _, rfl, _⟩ <;> simp
   obtain ⟨b, hb⟩ := key_of (ho 0 (by omega) (by omega)) hf ft.1 fit
   have hb0 := (hb (k + 1) (k + 1) (by omega) (by omega)).1
   have hbs : ∀ i (h1 : i < ts.length) (h2 : i < (rowS l[n].1 l[n].2.1 l[n].2.2.1 c row).1.length) k', 7000 ≤ k' → schema_Key.f k' ts[i].1 ts[i].2.1 ts[i].2.2.1 (rowS l[n].1 l[n].2.1 l[n].2.2.1 c row).1[i] = some (b, 0) := by
    intro i h1 h2 k' hk'
    obtain ⟨b', hb'⟩ := key_of (ho i h1 h2) hf ft.1 fit
    obtain ⟨q1, q2⟩ := hb' (k + 1) k' (by omega) hk'
    have : b' = b := by
     have := q1.symm.trans hb0
     injection this with this
     exact (Prod.mk.inj this).1
    rw [← this]; exact q2
   have h8 := s8_f hlen (by omega) ho hbs (rowS l[n].1 l[n].2.1 l[n].2.2.1 c row).1.length 0 (by omega) (k + 1) (by omega)
   have h8' : transomlaw11_TransformFits.s8 (k + 1) ts (rowS l[n].1 l[n].2.1 l[n].2.2.1 c row).1 b 0 = some true := h8
   simp only [hb0, h8', os]
  ·have e0' : ((rowS l[n].1 l[n].2.1 l[n].2.2.1 c row).2 != 0) = true := bne_iff_ne.2 e0
   have k4 := g.1 e0
   rw [e0', cond_true, k4]
   simp only [beq_self_eq_true, cond_true, aw (k + 1) (by omega), os]
   rw [transomlaw11_TransformFits.s7]
   simp only [transomlaw11_TransformFits.s7c]
 ·have fit' : (fitsS l[n].1 l[n].2.1 l[n].2.2.1 row != 0) = true := bne_iff_ne.2 fit
  rw [fit', transomlaw11_TransformFits.s4]
  simp only [transomlaw11_TransformFits.s4c, cond_true, d4, decide_true, aw (k + 2) (by omega), os]
  rw [transomlaw11_TransformFits.s5]
  simp only [transomlaw11_TransformFits.s5c, os]
theorem Pure.TransformFits (x0 : List D_api_Table) (x1 : D_api_Change) (x2 : List D_api_Value) (h0 : Fit (.sl T_api_Table) x0) (h1 : Fit T_api_Change x1) (h2 : Fit (.sl T_api_Value) x2) : ∃ k, transomlaw11_TransformFits.f k x0 x1 x2 = some true := by
 obtain ⟨k, hk⟩ : ∃ k, 40000 ≤ k := ⟨40000, Nat.le_refl _⟩
 refine ⟨k + 10, ?_⟩
 have z1 : ((1 : Int) == 0) = false := rfl
 have z0 : ((0 : Int) == 0) = true := rfl
 obtain ⟨r0, f0, g0⟩ := fewT_f h0 (k := k + 10) (by omega)
 obtain ⟨r1, f1, g1⟩ := few10' x1 (k + 10) (by omega)
 have st := fun row => s0_t x0 row x1 (k + 10) (by omega)
 simp only [transomlaw11_TransformFits.f, transomlaw11_TransformFits.c, f0, f1, few05 x2 (k + 10) (by omega), os, ofs]
 by_cases c0 : r0 = 0
 ·rw [c0, z0, cond_true]; exact st _
 ·rw [beq_eq_false_iff_ne.2 c0, cond_false]
  have hl := g0.resolve_left c0
  by_cases c1 : r1 = 0
  ·rw [c1, z0, cond_true]; exact st _
  ·rw [beq_eq_false_iff_ne.2 c1, cond_false]
   obtain ⟨hn, ⟨ht1, ht2⟩, hds⟩ := g1.resolve_left c1
   by_cases hv : x2.length ≤ 30 ∧ ∀ v ∈ x2, v.2.2.2.1.size ≤ 2000
   ·rw [if_pos hv, z1]
    obtain ⟨_, _, _, _, _, _, _, _, fcol, ftab, _⟩ := h1
    obtain ⟨_, _, _, ⟨_, fd1, fd2, _⟩, _⟩ := fcol
    obtain ⟨_, _, ftc, _⟩ := ftab
    obtain ⟨b0, b1⟩ := fit_i64 fd1
    have hd : OkV (dfl x1) := ⟨hds, nat_u64 fd2, b0, b1⟩
    have hvv := fit_v h2 hv
    have hok := okV_of h2 hvv
    obtain ⟨res, ht, hall⟩ := targets_eq hl (c := x1) hd.2.1 (fit_l ftc ht1 ht2) hn (k + 8) (by omega)
    rw [transomlaw11_TransformFits.s0]
    simp only [transomlaw11_TransformFits.s0c, cond_false, ofs]
    rw [transomlaw11_TransformFits.s1]
    simp only [transomlaw11_TransformFits.s1c, ht, os, ofs]
    by_cases e : res.2 = 0
    ·have e' : (res.2 != 0) = false := by rw [e]; rfl
     rw [e', cond_false]
     rcases hall e with k1 | ⟨n, hlt, hp, hnm, ok, hts⟩
     ·rw [k1, beq_self_eq_true]; exact s2_t _ _ _ _ _ (by omega)
     ·by_cases k1 : x1.1 = 1
      ·rw [k1, beq_self_eq_true]; exact s2_t _ _ _ _ _ (by omega)
      ·rw [beq_eq_false_iff_ne.2 k1, transomlaw11_TransformFits.s2]
       simp only [transomlaw11_TransformFits.s2c, cond_false, ofs]
       exact s3_f hl hn hd hvv hok hlt hp hnm ok hts (k + 7) (by omega)
    ·have e' : (res.2 != 0) = true := bne_iff_ne.2 e
     rw [e', cond_true]; exact s2_t _ _ _ _ _ (by omega)
   ·rw [if_neg hv, z0]; exact st _
end Go.Proofs.YtijjlpgcpdapnaaGreatDoor.Aev
