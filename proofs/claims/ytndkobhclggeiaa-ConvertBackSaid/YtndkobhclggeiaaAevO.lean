/- AEV: behind a call, the caller's state. -/
import Derived.Test.YtndkobhclggeiaaAevN
namespace Go.Proofs.Ytndkobhclggeiaa.Aev
set_option linter.unusedVariables false
set_option linter.unusedSimpArgs false
open Go

theorem sets_idx : ∀ {l : List (Nat × Option Blk)} {st : St} {n : Nat} {b : Option Blk} {i : Nat}, l[i]? = some (n, b) → (∀ j p, l[j]? = some p → p.1 = n → j = i) → (st.sets l).blk n = some b
  | [], st, n, b, i, h, _ => by simp at h
  | (m, c) :: l, st, n, b, 0, h, hu => by
    simp at h
    obtain ⟨rfl, rfl⟩ := h
    rw [St.sets, sets_other]
    · rw [set_blk, upd_same]
    · intro p hp e
      obtain ⟨j, hj⟩ := List.getElem?_of_mem hp
      have := hu (j + 1) p (by simpa using hj) e
      omega
  | (m, c) :: l, st, n, b, i + 1, h, hu => by
    rw [St.sets]
    refine sets_idx (i := i) (by simpa using h) (fun j p hj e => ?_)
    have := hu (j + 1) p (by simpa using hj) e
    omega

theorem idx_of {l : List Nat} (hn : ∀ {i j n : Nat}, l[i]? = some n → l[j]? = some n → i = j) {n i : Nat} (h : l[i]? = some n) : idx l n = some i := by
  cases hx : idx l n with
  | none =>
    unfold idx at hx
    rw [List.findIdx?_eq_none_iff] at hx
    have := hx n (List.mem_of_getElem? h)
    simp at this
  | some j => rw [hn (idx_some hx) h]

section
variable {P : Program} {sg : FuncId → Option (Nat × List Nat)} {fresh : Nat} {X : Cx} {w : World} {S : Nat → Prop} {ρ : Nat → Option Value} {H : Nat → Option Nat} {N : Nat} {st : St} {a : Act} {o : Oper} {x : Out} {lg lg' : List Loc}

theorem freshOk_spec : ∀ {k : Nat} {lg : List Loc} {r : Unit × List Loc}, (freshOk fresh k).run st lg = some r → ∀ j, j < k → st.blk (fresh + j) = none
  | 0, lg, r, h, j, hj => by omega
  | k + 1, lg, r, h, j, hj => by
    simp only [freshOk] at h
    have h := run_rdB h
    split at h
    · rename_i hn
      by_cases e : j = k
      · rw [e]; exact hn
      · exact freshOk_spec h j (by omega)
    · exact (run_fail h).elim

structure UnpackOK (st : St) (r : Req) (fresh : Nat) (s : Res) (x : Out) (bs : List (Option Blk)) : Prop where
  tv : s.tv.ren (back r.names r.nin fresh) = some x.tv
  all : All2 (fun b b' => renO (back r.names r.nin fresh) b = some b') s.blks bs
  nin : r.nin ≤ s.blks.length
  free : ∀ j, j < s.blks.length - r.nin → st.blk (fresh + j) = none
  wr : x.wr = r.wr ++ (r.names.drop r.nin).map (fun n => (n, none)) ++ (r.names.take r.nin).zip bs ++ ((bs.drop r.nin).zipIdx fresh).map fun p => (p.2, p.1)

theorem unpack_spec {r : Req} {s : Res} (h : (unpack r fresh s).run st lg = some (x, lg')) : ∃ bs, UnpackOK st r fresh s x bs := by
  unfold unpack at h
  obtain ⟨tv, lg1, h1, h⟩ := run_bind_some h
  obtain ⟨bs, lg2, h2, h⟩ := run_bind_some h
  obtain ⟨_, lg3, h3, h⟩ := run_bind_some h
  split at h
  · rename_i hc
    simp only [Bool.and_eq_true, decide_eq_true_eq] at hc
    cases run_pure' h
    exact ⟨bs, { tv := run_ofO h1, all := optMapM (run_ofO h2), nin := hc.1, free := freshOk_spec h3, wr := rfl }⟩
  · exact (run_fail h).elim

theorem renO_some {f : Nat → Option Nat} {b : Option Blk} {B : Blk} (h : renO f b = some (some B)) : ∃ B0, b = some B0 ∧ B0.ren f = some B := by
  cases b with
  | none => simp [renO] at h
  | some B0 =>
    simp only [renO] at h
    cases hr : B0.ren f with
    | none => simp [hr] at h
    | some B' => simp [hr] at h; subst h; exact ⟨B0, rfl, hr⟩

/-- The package of a request. -/
theorem pkg_mem {r : Req} {args : List TV} {S1 : Nat → Prop} {H1 : Nat → Option Nat} (hok : ReqOK st args r) (hm : Mem X w S1 ρ H1 (st.sets r.wr).blk) :
    let ρp := fun i => (r.names[i]?).bind ρ
    let Hp := fun i => (r.names[i]?).bind H1
    Mem (pkgCx w S1 ρp Hp r.blks r.nin) w S1 ρp Hp (live r.blks) ∧ (∀ n ∈ r.names, ∃ B, (st.sets r.wr).blk n = some (some B)) := by
  intro ρp Hp
  have hlive : ∀ n ∈ r.names, (st.sets r.wr).blk n = st.blk n := fun n hn => by
    rw [sets_other]
    intro p hp e
    exact hok.apart n hn (List.mem_map.2 ⟨p, hp, e⟩)
  have get : ∀ i B, live r.blks i = some (some B) → ∃ n b, r.names[i]? = some n ∧ (st.sets r.wr).blk n = some (some b) ∧ b.ren (idx r.names) = some B := by
    intro i B hB
    have hB : r.blks[i]? = some B := by
      unfold live at hB
      cases hx : r.blks[i]? with
      | none => simp [hx] at hB
      | some C => simp [hx] at hB; rw [hB]
    have hi : i < r.names.length := by
      rw [← hok.len]
      rcases Nat.lt_or_ge i r.blks.length with h | h
      · exact h
      · simp [List.getElem?_eq_none h] at hB
    obtain ⟨b, b', h1, h2, h3⟩ := hok.blk i r.names[i] (List.getElem?_eq_getElem hi)
    rw [hB] at h2; cases h2
    exact ⟨r.names[i], b, List.getElem?_eq_getElem hi, by rw [hlive _ (List.getElem_mem hi)]; exact h1, h3⟩
  have hp : ∀ {i n : Nat}, r.names[i]? = some n → ρp i = ρ n ∧ Hp i = H1 n := fun h => by simp [ρp, Hp, h]
  refine ⟨?_, fun n hn => ?_⟩
  · refine { rep := ?_, sep := ?_, apart := ?_, homes := ?_, old := hm.old, never := ?_, s0 := fun _ h => h, smine := fun _ h => .inl h, names := ?_, os := rfl, tape := rfl, output := rfl, size := Nat.le_refl _, same := fun _ _ _ => rfl }
    · intro i B hB
      obtain ⟨n, b, h1, h2, h3⟩ := get i B hB
      rw [(hp h1).2]
      refine RepBlk.ren (ρ1 := ρ) (f := idx r.names) (fun m m' v h4 h5 => ?_) (idx_of (fun {_ _ _} => hok.nodup) h1) h3 (hm.rep n b h2)
      rw [(hp (idx_some h4)).1]; exact h5
    · intro i j B C b hB hC h1 h2
      obtain ⟨n, b1, k1, k2, k3⟩ := get i B hB
      obtain ⟨m, b2, j1, j2, j3⟩ := get j C hC
      rw [(hp k1).2] at h1; rw [(hp j1).2] at h2
      have := hm.sep n m b1 b2 b k2 j2 h1 h2
      subst this
      exact hok.nodup k1 j1
    · intro i B b hB h1
      obtain ⟨n, b1, k1, k2, k3⟩ := get i B hB
      rw [(hp k1).2] at h1
      exact hm.apart n b1 b k2 h1
    · intro i B b hB h1
      refine .inl ⟨i, B, ?_, h1⟩
      unfold live at hB
      cases hx : r.blks[i]? with
      | none => simp [hx] at hB
      | some C => simp [hx] at hB; rw [hB]
    · intro i hi
      unfold live at hi
      have hi : r.blks[i]? = none := by simpa using hi
      have : r.names[i]? = none := by
        rw [List.getElem?_eq_none_iff] at hi ⊢
        rw [← hok.len]; exact hi
      simp [ρp, this]
    · intro i v hi
      simp only [pkgCx] at hi
      split at hi
      · exact hi
      · simp at hi
  · obtain ⟨i, hi⟩ := List.getElem?_of_mem hn
    obtain ⟨b, b', h1, _, _⟩ := hok.blk i n hi
    exact ⟨b, by rw [hlive n hn]; exact h1⟩

/-- The caller's memory behind the call. -/
theorem call_mem {r : Req} {args : List TV} {S1 : Nat → Prop} {H1 : Nat → Option Nat} (hok : ReqOK st args r) (hm : Mem X w S1 ρ H1 (st.sets r.wr).blk) (hts : ToSettle st r.wr) {s : Res} {bs : List (Option Blk)} (hu : UnpackOK st r fresh s x bs)
    {w' : World} {S' : Nat → Prop} {ρ' : Nat → Option Value} {H' : Nat → Option Nat}
    (hpost : Mem (pkgCx w S1 (fun i => (r.names[i]?).bind ρ) (fun i => (r.names[i]?).bind H1) r.blks r.nin) w' S' ρ' H' (fun n => s.blks[n]?)) {v : Value} (hv : RepTV w' S' ρ' s.tv v) :
    ∃ ρ'' H'', Mem X w' S' ρ'' H'' (st.sets x.wr).blk ∧ More w w' S1 S' ρ ρ'' ∧ RepTV w' S' ρ'' x.tv v := by
  obtain ⟨hpk, hall⟩ := pkg_mem hok hm
  have hbl := hu.all.length
  -- names and places
  let inF : Nat → Prop := fun n => fresh ≤ n ∧ n < fresh + (s.blks.length - r.nin)
  have hfree1 : ∀ n, inF n → (st.sets r.wr).blk n = none := by
    intro n hn
    have h0 : st.blk n = none := by
      have := hu.free (n - fresh) (by omega)
      rwa [show fresh + (n - fresh) = n by omega] at this
    rw [sets_other]
    · exact h0
    · intro p hp e
      obtain ⟨t', ex, xs', _, h5⟩ := hts p hp
      rw [e, h0] at h5; simp at h5
  have hnotF : ∀ n ∈ r.names, ¬ inF n := by
    intro n hn hf
    obtain ⟨B, hB⟩ := hall n hn
    rw [hfree1 n hf] at hB; simp at hB
  classical
  let ρ'' : Nat → Option Value := fun n => if inF n then ρ' (r.nin + (n - fresh)) else ρ n
  let H'' : Nat → Option Nat := fun n => if inF n then H' (r.nin + (n - fresh)) else match idx (r.names.take r.nin) n with | some i => H' i | none => H1 n
  have hρF : ∀ n, inF n → ρ'' n = ρ' (r.nin + (n - fresh)) := fun n h => by simp [ρ'', h]
  have hρO : ∀ n, ¬ inF n → ρ'' n = ρ n := fun n h => by simp [ρ'', h]
  -- the state's blocks
  let st1 := st.sets r.wr
  let l1 := (r.names.drop r.nin).map (fun n => (n, (none : Option Blk)))
  let l2 := (r.names.take r.nin).zip bs
  let l3 := ((bs.drop r.nin).zipIdx fresh).map fun p => (p.2, p.1)
  have hst : (st.sets x.wr).blk = (((st1.sets l1).sets l2).sets l3).blk := by rw [hu.wr, sets_append, sets_append, sets_append]
  have hl3 : ∀ j p, l3[j]? = some p → p.1 = fresh + j ∧ j < s.blks.length - r.nin ∧ bs[r.nin + j]? = some p.2 := by
    intro j p hj
    simp only [l3, List.getElem?_map, Option.map_eq_some_iff] at hj
    obtain ⟨q, hq, rfl⟩ := hj
    rw [List.getElem?_zipIdx, List.getElem?_drop] at hq
    simp only [Option.map_eq_some_iff] at hq
    obtain ⟨b, hb, rfl⟩ := hq
    have hlt : r.nin + j < bs.length := by
      rcases Nat.lt_or_ge (r.nin + j) bs.length with h | h
      · exact h
      · simp [List.getElem?_eq_none h] at hb
    exact ⟨rfl, by omega, hb⟩
  have hl2 : ∀ j p, l2[j]? = some p → j < r.nin ∧ r.names[j]? = some p.1 ∧ bs[j]? = some p.2 := by
    intro j p hj
    simp only [l2] at hj
    rw [List.getElem?_zip_eq_some] at hj
    obtain ⟨h1, h2⟩ := hj
    have hlt : j < r.nin := by
      rcases Nat.lt_or_ge j r.nin with h | h
      · exact h
      · have := List.getElem?_eq_none (l := r.names.take r.nin) (i := j) (by simp; omega)
        rw [this] at h1; simp at h1
    rw [List.getElem?_take_of_lt hlt] at h1
    exact ⟨hlt, h1, h2⟩
  have hl1 : ∀ j p, l1[j]? = some p → r.names[r.nin + j]? = some p.1 ∧ p.2 = none := by
    intro j p hj
    simp only [l1, List.getElem?_map, Option.map_eq_some_iff, List.getElem?_drop] at hj
    obtain ⟨n, hn, rfl⟩ := hj
    exact ⟨hn, rfl⟩
  have blkF : ∀ j, j < s.blks.length - r.nin → ∃ b, bs[r.nin + j]? = some b ∧ (st.sets x.wr).blk (fresh + j) = some b := by
    intro j hj
    have hlt : r.nin + j < bs.length := by omega
    refine ⟨bs[r.nin + j], List.getElem?_eq_getElem hlt, ?_⟩
    rw [hst]
    refine sets_idx (i := j) ?_ (fun k p hk e => ?_)
    · simp only [l3, List.getElem?_map, List.getElem?_zipIdx, List.getElem?_drop, List.getElem?_eq_getElem hlt, Option.map_some]
    · have := (hl3 k p hk).1; omega
  have notl3 : ∀ n, ¬ inF n → ((((st1.sets l1).sets l2).sets l3).blk n = ((st1.sets l1).sets l2).blk n) := by
    intro n hn
    rw [sets_other]
    intro p hp e
    obtain ⟨j, hj⟩ := List.getElem?_of_mem hp
    obtain ⟨h1, h2, _⟩ := hl3 j p hj
    exact hn ⟨by omega, by omega⟩
  have blkI : ∀ i n, i < r.nin → r.names[i]? = some n → ∃ b, bs[i]? = some b ∧ (st.sets x.wr).blk n = some b := by
    intro i n hi hn
    have hlt : i < bs.length := by have := hu.nin; omega
    refine ⟨bs[i], List.getElem?_eq_getElem hlt, ?_⟩
    rw [hst, notl3 n (hnotF n (List.mem_of_getElem? hn))]
    refine sets_idx (i := i) ?_ (fun k p hk e => ?_)
    · simp only [l2]
      rw [List.getElem?_zip_eq_some]
      exact ⟨by rw [List.getElem?_take_of_lt hi]; exact hn, List.getElem?_eq_getElem hlt⟩
    · obtain ⟨_, h2, _⟩ := hl2 k p hk
      rw [e] at h2
      exact hok.nodup h2 hn
  have blkM : ∀ i n, r.nin ≤ i → r.names[i]? = some n → (st.sets x.wr).blk n = some none := by
    intro i n hi hn
    rw [hst, notl3 n (hnotF n (List.mem_of_getElem? hn)), sets_other]
    · refine sets_idx (i := i - r.nin) ?_ (fun k p hk e => ?_)
      · simp only [l1, List.getElem?_map, List.getElem?_drop, show r.nin + (i - r.nin) = i by omega, hn, Option.map_some]
      · obtain ⟨h2, _⟩ := hl1 k p hk
        rw [e] at h2
        have := hok.nodup h2 hn
        omega
    · intro p hp e
      obtain ⟨j, hj⟩ := List.getElem?_of_mem hp
      obtain ⟨h1, h2, _⟩ := hl2 j p hj
      rw [e] at h2
      have := hok.nodup h2 hn
      omega
  have blkO : ∀ n, ¬ inF n → n ∉ r.names → (st.sets x.wr).blk n = st1.blk n := by
    intro n hF hn
    rw [hst, notl3 n hF, sets_other, sets_other]
    · intro p hp e
      obtain ⟨j, hj⟩ := List.getElem?_of_mem hp
      obtain ⟨h1, _⟩ := hl1 j p hj
      exact hn (e ▸ List.mem_of_getElem? h1)
    · intro p hp e
      obtain ⟨j, hj⟩ := List.getElem?_of_mem hp
      obtain ⟨_, h1, _⟩ := hl2 j p hj
      exact hn (e ▸ List.mem_of_getElem? h1)
  have htake : ∀ i n, i < r.nin → r.names[i]? = some n → H'' n = H' i := by
    intro i n hi hn
    have hidx : idx (r.names.take r.nin) n = some i := idx_of (l := r.names.take r.nin) (fun {a b c} h1 h2 => by
      have ha : a < r.nin := by
        rcases Nat.lt_or_ge a r.nin with h | h
        · exact h
        · rw [List.getElem?_eq_none (by simp; omega)] at h1; simp at h1
      have hb : b < r.nin := by
        rcases Nat.lt_or_ge b r.nin with h | h
        · exact h
        · rw [List.getElem?_eq_none (by simp; omega)] at h2; simp at h2
      rw [List.getElem?_take_of_lt ha] at h1
      rw [List.getElem?_take_of_lt hb] at h2
      exact hok.nodup h1 h2) (by rw [List.getElem?_take_of_lt hi]; exact hn)
    simp [H'', hnotF n (List.mem_of_getElem? hn), hidx]
  have hHO : ∀ n, ¬ inF n → n ∉ r.names → H'' n = H1 n := by
    intro n hF hn
    have : idx (r.names.take r.nin) n = none := by
      cases hx : idx (r.names.take r.nin) n with
      | none => rfl
      | some i => exact (hn (List.mem_of_mem_take (List.mem_of_getElem? (idx_some hx)))).elim
    simp [H'', hF, this]
  have hHF : ∀ n, inF n → H'' n = H' (r.nin + (n - fresh)) := fun n h => by simp [H'', h]
  -- every live name, by kind
  have kinds : ∀ (n : Nat) (B : Blk), (st.sets x.wr).blk n = some (some B) →
      (∃ i : Nat, s.blks[i]? ≠ none ∧ back r.names r.nin fresh i = some n ∧ bs[i]? = some (some B) ∧ H'' n = H' i) ∨ (¬ inF n ∧ n ∉ r.names ∧ st1.blk n = some (some B) ∧ H'' n = H1 n) := by
    intro n B hB
    by_cases hF : inF n
    · obtain ⟨b, hb, hbl'⟩ := blkF (n - fresh) (by omega)
      rw [show fresh + (n - fresh) = n by have := hF.1; omega] at hbl'
      rw [hbl'] at hB; cases hB
      refine .inl ⟨r.nin + (n - fresh), ?_, ?_, hb, hHF n hF⟩
      · have : r.nin + (n - fresh) < s.blks.length := by have := hu.nin; have := hF.2; omega
        rw [List.getElem?_eq_getElem this]; simp
      · unfold back
        rw [if_neg (by omega)]
        congr 1
        have := hF.1; omega
    · by_cases hn : n ∈ r.names
      · obtain ⟨i, hi⟩ := List.getElem?_of_mem hn
        by_cases hlt : i < r.nin
        · obtain ⟨b, hb, hbl'⟩ := blkI i n hlt hi
          rw [hbl'] at hB; cases hB
          refine .inl ⟨i, ?_, ?_, hb, htake i n hlt hi⟩
          · have : i < s.blks.length := by have := hu.nin; omega
            rw [List.getElem?_eq_getElem this]; simp
          · unfold back; rw [if_pos hlt]; exact hi
        · rw [blkM i n (by omega) hi] at hB; cases hB
      · refine .inr ⟨hF, hn, ?_, hHO n hF hn⟩
        rw [blkO n hF hn] at hB; exact hB
  have resB : ∀ (i : Nat) (B : Blk), bs[i]? = some (some B) → ∃ B0 : Blk, s.blks[i]? = some (some B0) ∧ B0.ren (back r.names r.nin fresh) = some B := by
    intro i B hB
    obtain ⟨b, hb, hr⟩ := hu.all.get' hB
    obtain ⟨B0, rfl, h⟩ := renO_some hr
    exact ⟨B0, hb, h⟩
  have hren : ∀ m m' u, back r.names r.nin fresh m = some m' → ρ' m = some u → ρ'' m' = some u := by
    intro m m' u hb hr
    unfold back at hb
    split at hb
    · rename_i hlt
      have hmem := List.mem_of_getElem? hb
      rw [hρO m' (hnotF m' hmem)]
      obtain ⟨B, hB⟩ := hall m' hmem
      have hsome : ∃ u', ρ m' = some u' := by
        have := hm.rep m' B hB
        cases B with
        | box cs => obtain ⟨b, vs, e, _, h1, _⟩ := this; exact ⟨_, h1⟩
        | own t excl xs => obtain ⟨v, h1, _⟩ := this; exact ⟨_, h1⟩
        | settled t xs => obtain ⟨v, h1, _⟩ := this; exact ⟨_, h1⟩
      obtain ⟨u', hu'⟩ := hsome
      have := hpost.names m u' (by simp [pkgCx, hlt, hb, hu'])
      rw [hr] at this; rw [hu', ← this]
    · rename_i hge
      simp at hb; subst hb
      have hlt : m < s.blks.length := by
        rcases Nat.lt_or_ge m s.blks.length with h | h
        · exact h
        · have := hpost.never m (by simp [List.getElem?_eq_none h])
          rw [hr] at this; simp at this
      rw [hρF _ ⟨by omega, by omega⟩]
      rw [show r.nin + (fresh + (m - r.nin) - fresh) = m by omega]; exact hr
  have hmine : ∀ b, (∃ (m : Nat) (C : Blk), r.blks[m]? = some C ∧ ((r.names[m]?).bind H1) = some b) → X.mine b := by
    rintro b ⟨m, C, hC, hb⟩
    cases hn : r.names[m]? with
    | none => simp [hn] at hb
    | some n =>
      simp [hn] at hb
      obtain ⟨B, hB⟩ := hall n (List.mem_of_getElem? hn)
      exact hm.homes n B b hB hb
  have hnotM : ∀ n B b, n ∉ r.names → st1.blk n = some (some B) → H1 n = some b → ¬ ∃ (m : Nat) (C : Blk), r.blks[m]? = some C ∧ ((r.names[m]?).bind H1) = some b := by
    rintro n B b hn hB hb ⟨m, C, hC, hb'⟩
    cases hn' : r.names[m]? with
    | none => simp [hn'] at hb'
    | some n' =>
      simp [hn'] at hb'
      obtain ⟨B', hB'⟩ := hall n' (List.mem_of_getElem? hn')
      have := hm.sep n n' B B' b hB hB' hb hb'
      subst this
      exact hn (List.mem_of_getElem? hn')
  have hkeep : ∀ n B b, n ∉ r.names → st1.blk n = some (some B) → H1 n = some b → w'.heap[b]? = w.heap[b]? := fun n B b hn hB hb =>
    hpost.same b ((hm.rep n B hB).home_lt hb) (hnotM n B b hn hB hb)
  have hS1 : ∀ b, S1 b → w'.heap[b]? = w.heap[b]? := by
    intro b hb
    refine hpost.same b (hm.old b hb) ?_
    rintro ⟨m, C, hC, hb'⟩
    cases hn' : r.names[m]? with
    | none => simp [hn'] at hb'
    | some n' =>
      simp [hn'] at hb'
      obtain ⟨B', hB'⟩ := hall n' (List.mem_of_getElem? hn')
      exact hm.apart n' B' b hB' hb' hb
  have hρle : ∀ n u, ρ n = some u → ρ'' n = some u := by
    intro n u hn
    by_cases hF : inF n
    · have := hm.never n (hfree1 n hF); rw [this] at hn; simp at hn
    · rw [hρO n hF]; exact hn
  have hmore : More w w' S1 S' ρ ρ'' := ⟨hpost.s0, hS1, hρle⟩
  have hnew : ∀ b, S' b → S1 b ∨ (∃ (m : Nat) (C : Blk), r.blks[m]? = some C ∧ ((r.names[m]?).bind H1) = some b) ∨ w.heap.size ≤ b := by
    intro b hb
    rcases hpost.smine b hb with h | h | h
    · exact .inl h
    · exact .inr (.inl h)
    · exact .inr (.inr h)
  refine ⟨ρ'', H'', ?_, hmore, RepTV.ren hren hu.tv hv⟩
  refine { rep := ?_, sep := ?_, apart := ?_, homes := ?_, old := hpost.old, never := ?_, s0 := fun b hb => hpost.s0 b (hm.s0 b hb), smine := ?_, names := fun n u hn => hρle n u (hm.names n u hn), os := hpost.os.trans hm.os, tape := hpost.tape.trans hm.tape, output := hpost.output.trans hm.output, size := Nat.le_trans hm.size hpost.size, same := ?_ }
  · intro n B hB
    rcases kinds n B hB with ⟨i, _, h1, h2, h3⟩ | ⟨hF, hn, h1, h2⟩
    · obtain ⟨B0, h4, h5⟩ := resB i B h2
      rw [h3]
      exact RepBlk.ren hren h1 h5 (hpost.rep i B0 h4)
    · rw [h2]
      exact (hm.rep n B h1).mono hpost.s0 hS1 hρle (fun b hb => hkeep n B b hn h1 hb)
  · intro n m B C b hB hC h1 h2
    rcases kinds n B hB with ⟨i, _, i1, i2, i3⟩ | ⟨iF, iN, i1, i2⟩ <;> rcases kinds m C hC with ⟨j, _, j1, j2, j3⟩ | ⟨jF, jN, j1, j2⟩
    · obtain ⟨B0, h4, _⟩ := resB i B i2
      obtain ⟨C0, h5, _⟩ := resB j C j2
      rw [i3] at h1; rw [j3] at h2
      have := hpost.sep i j B0 C0 b h4 h5 h1 h2
      subst this
      rw [i1] at j1; simpa using j1
    · obtain ⟨B0, h4, _⟩ := resB i B i2
      rw [i3] at h1; rw [j2] at h2
      have hlt := (hm.rep m C j1).home_lt h2
      rcases hpost.homes i B0 b h4 h1 with h | h
      · exact (hnotM m C b jN j1 h2 h).elim
      · have : (pkgCx w S1 (fun i => (r.names[i]?).bind ρ) (fun i => (r.names[i]?).bind H1) r.blks r.nin).w0.heap.size = w.heap.size := rfl
        omega
    · obtain ⟨C0, h5, _⟩ := resB j C j2
      rw [i2] at h1; rw [j3] at h2
      have hlt := (hm.rep n B i1).home_lt h1
      rcases hpost.homes j C0 b h5 h2 with h | h
      · exact (hnotM n B b iN i1 h1 h).elim
      · have : (pkgCx w S1 (fun i => (r.names[i]?).bind ρ) (fun i => (r.names[i]?).bind H1) r.blks r.nin).w0.heap.size = w.heap.size := rfl
        omega
    · rw [i2] at h1; rw [j2] at h2
      exact hm.sep n m B C b i1 j1 h1 h2
  · intro n B b hB h1
    rcases kinds n B hB with ⟨i, _, i1, i2, i3⟩ | ⟨iF, iN, i1, i2⟩
    · obtain ⟨B0, h4, _⟩ := resB i B i2
      rw [i3] at h1
      exact hpost.apart i B0 b h4 h1
    · rw [i2] at h1
      intro hs
      rcases hnew b hs with h | h | h
      · exact hm.apart n B b i1 h1 h
      · exact hnotM n B b iN i1 h1 h
      · have := (hm.rep n B i1).home_lt h1; omega
  · intro n B b hB h1
    rcases kinds n B hB with ⟨i, _, i1, i2, i3⟩ | ⟨iF, iN, i1, i2⟩
    · obtain ⟨B0, h4, _⟩ := resB i B i2
      rw [i3] at h1
      rcases hpost.homes i B0 b h4 h1 with h | h
      · exact hmine b h
      · exact .inr (Nat.le_trans hm.size h)
    · rw [i2] at h1
      exact hm.homes n B b i1 h1
  · intro n hn
    by_cases hF : inF n
    · obtain ⟨b, _, hb⟩ := blkF (n - fresh) (by have := hF.2; have := hF.1; omega)
      rw [show fresh + (n - fresh) = n by have := hF.1; omega, hn] at hb; simp at hb
    · rw [hρO n hF]
      by_cases hnn : n ∈ r.names
      · obtain ⟨i, hi⟩ := List.getElem?_of_mem hnn
        by_cases hlt : i < r.nin
        · obtain ⟨b, _, hb⟩ := blkI i n hlt hi
          rw [hn] at hb; simp at hb
        · have := blkM i n (by omega) hi
          rw [hn] at this; simp at this
      · exact hm.never n (by rw [← blkO n hF hnn]; exact hn)
  · intro b hb
    rcases hnew b hb with h | h | h
    · exact hm.smine b h
    · exact .inr (hmine b h)
    · exact .inr (.inr (Nat.le_trans hm.size h))
  · intro b hb hM
    rw [hpost.same b (Nat.lt_of_lt_of_le hb hm.size) ?_]
    · exact hm.same b hb hM
    · intro h
      rcases hmine b h with h' | h'
      · exact hM h'
      · omega
end
end Go.Proofs.Ytndkobhclggeiaa.Aev
