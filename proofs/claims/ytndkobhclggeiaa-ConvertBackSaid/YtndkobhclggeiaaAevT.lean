/- AEV: packages of a state, what is done ahead of a segment, and results. -/
import Derived.Test.YtndkobhclggeiaaAevS
namespace Go.Proofs.Ytndkobhclggeiaa.Aev
set_option linter.unusedVariables false
set_option linter.unusedSimpArgs false
open Go

section
variable {P : Program} {X : Cx} {w : World} {S : Nat → Prop} {ρ : Nat → Option Value} {H : Nat → Option Nat} {N : Nat} {st : St} {a : Act} {lg lg' : List Loc}

/-- A variable is told otherwise. -/
theorem Rep.tell (h : Rep X w S ρ H N st a) {t : Nat} {tv : TV} (hv : RepTV w S ρ tv (a.tmps.getD t undef)) : Rep X w S ρ H N (st.put (some t) tv) a := by
  refine { mem := h.mem, tmp := ?_, size := h.size, defers := h.defers }
  intro n u hu
  simp only [St.put] at hu
  split at hu
  · rename_i e; subst e; cases hu; exact hv
  · exact h.tmp n u hu

theorem settle_rep (h : Rep X w S ρ H N st a) {wr : List (Nat × Option Blk)} (ht : ToSettle st wr) : ∃ S' H', Rep X w S' ρ H' N (st.sets wr) a ∧ More w w S S' ρ ρ ∧ Settled w S' ρ wr := by
  obtain ⟨S', H', hm, hmore, hset⟩ := settle_all wr h.mem ht.all
  exact ⟨S', H', h.of_mem hm hmore (sets_tmp _ _), hmore, hset⟩

theorem toOwn_rep {fr : Nat} {e : Ty} {c : AV} {v : Value} {r : (AV × List (Nat × Option Blk)) × List Loc} (h : (toOwn fr e c).run st lg = some r) (hR : Rep X w S ρ H N st a) (hv : RepAV w S ρ c v) :
    ∃ ρ' H', Rep X w S ρ' H' N (st.sets r.1.2) a ∧ More w w S S ρ ρ' ∧ RepAV w S ρ' r.1.1 v ∧ (∀ p ∈ r.1.2, st.blk p.1 = none ∨ ∃ t ex xs, st.blk p.1 = some (some (.own t ex xs))) := by
  unfold toOwn at h
  split at h
  · have h := run_rdB h
    split at h
    · rename_i hn
      cases run_pure' h
      obtain ⟨rfl, _⟩ := hv
      obtain ⟨hm, hmore⟩ := hR.mem.adopt hn (home := none) (w' := w) (fun b hb => by simp at hb) (Nat.le_refl _) (fun k _ _ => rfl) rfl rfl rfl (v := .slice none 0 0) (B := .own e false [])
        ⟨_, by rw [upd_same], .inr ⟨rfl, rfl, rd_nil, none, rfl⟩⟩
      refine ⟨_, _, hR.of_mem (st' := st.sets [(fr, some (.own e false []))]) hm hmore rfl, hmore, ⟨by rw [upd_same], _, _, _, rfl⟩, fun p hp => ?_⟩
      simp at hp; subst hp; exact .inl hn
    · exact (run_fail h).elim
  · rename_i n
    obtain ⟨B, lg1, h1, h⟩ := run_bind_some h
    have hb := run_rB h1
    simp only at h hb
    split at h
    · rename_i u ex xs
      split at h
      · cases run_pure' h
        obtain ⟨v', h2, h3⟩ := hR.mem.rep n _ hb
        have hm := hR.mem.retell hb (B' := .own u false xs) ⟨v', h2, by
          rcases h3 with h3 | ⟨_, h3⟩
          · exact .inl h3
          · exact .inr ⟨rfl, h3⟩⟩
        refine ⟨ρ, H, hR.of_mem (st' := st.sets [(n, some (.own u false xs))]) hm (More.refl _ _ _) rfl, More.refl _ _ _, hv, fun p hp => ?_⟩
        simp at hp; subst hp; exact .inr ⟨_, _, _, hb⟩
      · exact (run_fail h).elim
    · exact (run_fail h).elim
  · exact (run_fail h).elim

theorem cut_id (vs : List Value) (off n : Nat) (h : off + n ≤ vs.length) : vs.take off ++ (vs.drop off).take n ++ vs.drop (off + n) = vs := by
  rw [List.append_assoc]
  have : vs.drop (off + n) = (vs.drop off).drop n := by rw [List.drop_drop]
  rw [this, List.take_append_drop, List.take_append_drop]

/-- What is done ahead of a segment leaves memory as it is. -/
theorem prepA_rep {fr : Nat} {p : Prep} {r : (Option (Nat × TV) × List (Nat × Option Blk)) × List Loc} (h : (prepA fr p).run st lg = some r) (hR : Rep X w S ρ H N st a) :
    ∃ S' ρ' H', Rep X w S' ρ' H' N (match r.1.1 with | some (t, v) => (st.sets r.1.2).put (some t) v | none => st.sets r.1.2) a ∧ More w w S S' ρ ρ' := by
  cases p with
  | dat t ty =>
    simp only [prepA] at h
    obtain ⟨v, lg1, h1, h⟩ := run_bind_some h
    have hv := hR.tmp _ _ (run_rT h1)
    simp only at h hv
    split at h
    · obtain ⟨⟨y, wr⟩, lg2, h2, h⟩ := run_bind_some h
      cases run_pure h
      obtain ⟨hts, hn⟩ := normVV_spec h2 hR.mem
      obtain ⟨S', H', hR', hmore, hset⟩ := settle_rep hR hts
      exact ⟨S', ρ, H', hR'.tell (hn hmore.s hset hv), hmore⟩
    · exact (run_fail h).elim
  | own t e =>
    simp only [prepA] at h
    obtain ⟨v, lg1, h1, h⟩ := run_bind_some h
    have hv := hR.tmp _ _ (run_rT h1)
    simp only at h hv
    split at h
    · obtain ⟨⟨y, wr⟩, lg2, h2, h⟩ := run_bind_some h
      cases run_pure h
      obtain ⟨ρ', H', hR', hmore, hv', _⟩ := toOwn_rep h2 hR hv
      exact ⟨S, ρ', H', hR'.tell hv', hmore⟩
    · exact (run_fail h).elim
  | cellDat t off ty =>
    simp only [prepA] at h
    obtain ⟨v, lg1, h1, h⟩ := run_bind_some h
    obtain ⟨⟨n, o⟩, lg2, h2, h⟩ := run_bind_some h
    obtain ⟨B, lg3, h3, h⟩ := run_bind_some h
    have hb := run_rB h3
    simp only at h hb
    split at h
    · rename_i cs
      split at h
      · rename_i l hcut
        obtain ⟨⟨y, wr⟩, lg4, h4, h⟩ := run_bind_some h
        simp only at h
        split at h
        · rename_i cs' hput
          split at h
          · rename_i hap
            cases run_pure' h
            obtain ⟨hts, hn⟩ := normVV_spec h4 hR.mem
            obtain ⟨S', H', hR', hmore, hset⟩ := settle_rep hR hts
            have hb' : (st.sets wr).blk n = some (some (.box cs)) := by
              rw [sets_other]
              · exact hb
              · intro p hp e
                exact apartL_spec hap n (by simp) (List.mem_map.2 ⟨p, hp, e⟩)
            obtain ⟨b, vs, el, e1, e2, e3, e4⟩ := hR'.mem.rep n _ hb'
            obtain ⟨_, vs0, _, e1', e2', e3', e4'⟩ := hR.mem.rep n _ hb
            rw [e2'] at e2; simp at e2; subst e2
            rw [e3'] at e3; simp at e3; obtain ⟨rfl, _⟩ := e3
            obtain ⟨hc1, rfl⟩ := cut_some hcut
            have hlen := e4.length
            have hy := hn (v := .agg ((vs0.toList.drop (o + off)).take ty.size).toArray) hmore.s hset ⟨_, rfl, by simpa using (e4'.drop (o + off)).take ty.size⟩
            have hyc := RepVV.cells hy
            obtain ⟨h5, h6⟩ := putCells_rep hput e4 hyc
            have hsz : (Value.agg ((vs0.toList.drop (o + off)).take ty.size).toArray).cells.toList = (vs0.toList.drop (o + off)).take ty.size := by simp [Value.cells]
            rw [hsz] at h6
            have hl : ((vs0.toList.drop (o + off)).take ty.size).length = ty.size := by simp at hlen ⊢; omega
            rw [hl, cut_id _ _ _ (by omega)] at h6
            have hm := hR'.mem.retell hb' (B' := .box cs') ⟨_, vs0, _, e1, e2', e3', h6⟩
            refine ⟨S', ρ, H', ?_, hmore⟩
            have := hR'.of_mem (st' := (st.sets wr).sets [(n, some (.box cs'))]) hm (More.refl _ _ _) rfl
            simp only [sets_append]
            exact this
          · exact (run_fail h).elim
        · exact (run_fail h).elim
      · exact (run_fail h).elim
    · exact (run_fail h).elim
  | cellOwn t off e =>
    simp only [prepA] at h
    obtain ⟨v, lg1, h1, h⟩ := run_bind_some h
    obtain ⟨⟨n, o⟩, lg2, h2, h⟩ := run_bind_some h
    obtain ⟨B, lg3, h3, h⟩ := run_bind_some h
    have hb := run_rB h3
    simp only at h hb
    split at h
    · rename_i cs
      split at h
      · rename_i c hcut
        obtain ⟨⟨y, wr⟩, lg4, h4, h⟩ := run_bind_some h
        simp only at h
        split at h
        · rename_i cs' hput
          split at h
          · rename_i hap
            cases run_pure' h
            obtain ⟨_, vs0, _, e1', e2', e3', e4'⟩ := hR.mem.rep n _ hb
            obtain ⟨hc1, hc2⟩ := cut_some hcut
            have hcut' := (e4'.drop (o + off)).take 1
            rw [← hc2] at hcut'
            obtain ⟨u, m, hu, hvc, hm0⟩ := hcut'.cons_left
            have hm0 := hm0.nil_left
            subst hm0
            obtain ⟨ρ', H', hR', hmore, hv', _⟩ := toOwn_rep h4 hR hvc
            have hb' : (st.sets wr).blk n = some (some (.box cs)) := by
              rw [sets_other]
              · exact hb
              · intro p hp e
                exact apartL_spec hap n (by simp) (List.mem_map.2 ⟨p, hp, e⟩)
            obtain ⟨b, vs, el, e1, e2, e3, e4⟩ := hR'.mem.rep n _ hb'
            have e2'' := hmore.names _ _ e2'
            rw [e2''] at e2; simp at e2; subst e2
            rw [e3'] at e3; simp at e3; obtain ⟨rfl, _⟩ := e3
            have hlen := e4.length
            obtain ⟨h5, h6⟩ := putCells_rep hput e4 (us := [u]) ⟨hv', trivial⟩
            rw [← hu] at h6
            have hl : ((vs0.toList.drop (o + off)).take 1).length = 1 := by rw [hu]; rfl
            rw [hl, cut_id _ _ _ (by omega)] at h6
            have hm := hR'.mem.retell hb' (B' := .box cs') ⟨_, vs0, _, e1, e2'', e3', h6⟩
            refine ⟨S, ρ', H', ?_, hmore⟩
            have := hR'.of_mem (st' := (st.sets wr).sets [(n, some (.box cs'))]) hm (More.refl _ _ _) rfl
            simp only [sets_append]
            exact this
          · exact (run_fail h).elim
        · exact (run_fail h).elim
      · exact (run_fail h).elim
    · exact (run_fail h).elim

theorem runPreps_rep {β : Type} {K : St → Option β} {r : β} : ∀ {ps : List Prep} {fr : Nat} {st : St} {S : Nat → Prop} {ρ : Nat → Option Value} {H : Nat → Option Nat}, runPreps K ps fr st = some r → Rep X w S ρ H N st a →
    ∃ st' S' ρ' H', K st' = some r ∧ Rep X w S' ρ' H' N st' a
  | [], fr, st, S, ρ, H, h, hR => ⟨st, S, ρ, H, h, hR⟩
  | p :: ps, fr, st, S, ρ, H, h, hR => by
    simp only [runPreps] at h
    obtain ⟨q, lg', h1, h⟩ := runK_some h
    obtain ⟨S', ρ', H', hR', _⟩ := prepA_rep h1 hR
    simp only at h hR'
    split at h
    · rename_i t v hq
      rw [hq] at hR'
      exact runPreps_rep h hR'
    · rename_i hq
      rw [hq] at hR'
      exact runPreps_rep h hR'

/-- A package of a state: the names that it came with, and what is reached. -/
theorem packN_rep {nin : Nat} {wr : List (Nat × Option Blk)} {tvs : List TV} {vals : List Value} {r : (List TV × List (Option Blk)) × List Loc} (h : (packN nin wr tvs).run st lg = some r)
    {st2 : St} (h2 : ∀ n, n ∉ wr.map (·.1) → st2.blk n = st.blk n) (hm : Mem X w S ρ H st2.blk) (hX : ∀ n v, X.ρ0 n = some v → n < nin) (hv : All2 (RepTV w S ρ) tvs vals) :
    ∃ ρ' H', Mem X w S ρ' H' (fun n => r.1.2[n]?) ∧ All2 (RepTV w S ρ') r.1.1 vals := by
  unfold packN at h
  obtain ⟨ins, lg1, h1, h⟩ := run_bind_some h
  obtain ⟨nb, lg2, h3, h⟩ := run_bind_some h
  obtain ⟨tvs', lg3, h4, h⟩ := run_bind_some h
  obtain ⟨blks', lg4, h5, h⟩ := run_bind_some h
  have ht := optMapM (run_ofO h4)
  have hb := optMapM (run_ofO h5)
  simp only at ht hb h
  split at h
  · rename_i hc
    simp only [Bool.and_eq_true] at hc
    obtain ⟨c1, c2⟩ := hc
    cases run_pure' h
    have hins := run_mapM h1
    simp only at hins
    generalize hnames : List.range nin ++ nb.map (·.1) = names at ht hb c1 c2
    have hnd : ∀ {i j n : Nat}, names[i]? = some n → names[j]? = some n → i = j := fun hi hj => nodupB_spec c2 hi hj
    have hlive : ∀ n ∈ names, st2.blk n = st.blk n := fun n hn => h2 n (apartL_spec c1 n hn)
    have hinl : ins.length = nin := by have := hins.length; simp at this; exact this.symm
    -- the block of each name
    have get : ∀ (i : Nat) (b : Option Blk), (ins ++ nb.map fun p => some p.2)[i]? = some b → ∃ n, names[i]? = some n ∧ st2.blk n = some b := by
      intro i b hi
      by_cases hlt : i < nin
      · rw [List.getElem?_append_left (by omega)] at hi
        obtain ⟨n, hn, lg5, lg6, hr⟩ := hins.get' hi
        rw [List.getElem?_range hlt] at hn
        simp at hn; subst hn
        have hr := run_rdB hr
        have hni : names[i]? = some i := by rw [← hnames, List.getElem?_append_left (by simpa using hlt), List.getElem?_range hlt]
        refine ⟨i, hni, ?_⟩
        rw [hlive i (List.mem_of_getElem? hni)]
        split at hr
        · rename_i b' hb'
          cases run_pure' hr
          exact hb'
        · exact (run_fail hr).elim
      · rw [List.getElem?_append_right (by omega), hinl] at hi
        simp only [List.getElem?_map, Option.map_eq_some_iff] at hi
        obtain ⟨p, hp, rfl⟩ := hi
        have hni : names[i]? = some p.1 := by
          rw [← hnames, List.getElem?_append_right (by simp; omega)]
          simp [hp]
        refine ⟨p.1, hni, ?_⟩
        rw [hlive _ (List.mem_of_getElem? hni)]
        exact reach_spec h3 p (List.mem_of_getElem? hp)
    have hlen : names.length = blks'.length := by
      have := hb.length
      rw [← hnames]; simp at this ⊢; omega
    let ρ' : Nat → Option Value := fun i => (names[i]?).bind ρ
    let H' : Nat → Option Nat := fun i => (names[i]?).bind H
    have hp : ∀ {i n : Nat}, names[i]? = some n → ρ' i = ρ n ∧ H' i = H n := fun h => by simp [ρ', H', h]
    have hren : ∀ m m' v, idx names m = some m' → ρ m = some v → ρ' m' = some v := fun m m' v h4 h5 => by rw [(hp (idx_some h4)).1]; exact h5
    have getB : ∀ (i : Nat) (B : Blk), blks'[i]? = some (some B) → ∃ n B0, names[i]? = some n ∧ st2.blk n = some (some B0) ∧ B0.ren (idx names) = some B := by
      intro i B hB
      obtain ⟨b0, hb0, hr⟩ := hb.get' hB
      obtain ⟨B0, rfl, hr2⟩ := renO_some hr
      obtain ⟨n, h6, h7⟩ := get i _ hb0
      exact ⟨n, B0, h6, h7, hr2⟩
    refine ⟨ρ', H', ?_, All2.ren (R := RepTV w S ρ) (R' := RepTV w S ρ') (fun a a' v hg hr => RepTV.ren hren hg hr) ht hv⟩
    refine { rep := ?_, sep := ?_, apart := ?_, homes := ?_, old := hm.old, never := ?_, s0 := hm.s0, smine := hm.smine, names := ?_, os := hm.os, tape := hm.tape, output := hm.output, size := hm.size, same := hm.same }
    · intro i B hB
      obtain ⟨n, B0, h6, h7, h8⟩ := getB i B hB
      rw [(hp h6).2]
      exact RepBlk.ren hren (idx_of (fun {_ _ _} => hnd) h6) h8 (hm.rep n B0 h7)
    · intro i j B C b hB hC e1 e2
      obtain ⟨n, B0, h6, h7, h8⟩ := getB i B hB
      obtain ⟨m, C0, k6, k7, k8⟩ := getB j C hC
      rw [(hp h6).2] at e1; rw [(hp k6).2] at e2
      have := hm.sep n m B0 C0 b h7 k7 e1 e2
      subst this
      exact hnd h6 k6
    · intro i B b hB e1
      obtain ⟨n, B0, h6, h7, h8⟩ := getB i B hB
      rw [(hp h6).2] at e1
      exact hm.apart n B0 b h7 e1
    · intro i B b hB e1
      obtain ⟨n, B0, h6, h7, h8⟩ := getB i B hB
      rw [(hp h6).2] at e1
      exact hm.homes n B0 b h7 e1
    · intro i hi
      have : names[i]? = none := by
        rw [List.getElem?_eq_none_iff] at hi ⊢
        have hi : blks'.length ≤ i := hi
        omega
      simp [ρ', this]
    · intro n v hn
      have hlt := hX n v hn
      have hni : names[n]? = some n := by rw [← hnames, List.getElem?_append_left (by simpa using hlt), List.getElem?_range hlt]
      rw [(hp hni).1]
      exact hm.names n v hn
  · exact (run_fail h).elim
end
end Go.Proofs.Ytndkobhclggeiaa.Aev
