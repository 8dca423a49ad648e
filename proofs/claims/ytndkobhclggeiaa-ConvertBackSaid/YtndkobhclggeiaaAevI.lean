/- AEV: rows of memory, appends and conversions. -/
import Derived.Test.YtndkobhclggeiaaAevH
import Derived.Deep.AppendSrc
import Derived.Laws.BytesString
namespace Go.Proofs.Ytndkobhclggeiaa.Aev
set_option linter.unusedVariables false
set_option linter.unusedSimpArgs false
open Go

/-- Cells that are the rows of data, one behind the other. -/
def Rows (w : World) (S : Nat → Prop) (t : Ty) (vs : List Value) (xs : List t.den) : Prop :=
  vs.length = xs.length * t.size ∧ ∀ i (h : i < xs.length), Rd w S t ((vs.drop (i * t.size)).take t.size) xs[i]

section
variable {w w' : World} {S S' : Nat → Prop} {t : Ty}
theorem Rows.mono (hS : ∀ b, S b → S' b) (hw : ∀ b, S b → w'.heap[b]? = w.heap[b]?) {vs : List Value} {xs : List t.den} (h : Rows w S t vs xs) : Rows w' S' t vs xs :=
  ⟨h.1, fun i hi => Rd.mono hS hw _ _ _ (h.2 i hi)⟩
theorem Rows.append {vs us : List Value} {xs ys : List t.den} (h : Rows w S t vs xs) (k : Rows w S t us ys) : Rows w S t (vs ++ us) (xs ++ ys) := by
  refine ⟨by simp [h.1, k.1, Nat.add_mul], fun i hi => ?_⟩
  by_cases hl : i < xs.length
  · have h1 : (i + 1) * t.size ≤ xs.length * t.size := Nat.mul_le_mul_right _ hl
    rw [Nat.add_mul] at h1
    have e : ((vs ++ us).drop (i * t.size)).take t.size = (vs.drop (i * t.size)).take t.size := by
      rw [List.drop_append_of_le_length (by rw [h.1]; omega), List.take_append_of_le_length (by simp [h.1]; omega)]
    rw [e, List.getElem_append_left hl]
    exact h.2 i hl
  · have hi' : i - xs.length < ys.length := by simp at hi; omega
    have hm : i * t.size = vs.length + (i - xs.length) * t.size := by rw [h.1, ← Nat.add_mul]; congr 1; omega
    have e : ((vs ++ us).drop (i * t.size)).take t.size = (us.drop ((i - xs.length) * t.size)).take t.size := by
      rw [hm, List.drop_append, List.drop_eq_nil_of_le (Nat.le_add_right _ _)]
      simp
    rw [e, List.getElem_append_right (by omega)]
    exact k.2 _ hi'
theorem Rows.one {vs : List Value} {xs : List t.den} (h : Rows w S t vs xs) : ∀ v ∈ vs, v.oneCell' = true := by
  intro v hv
  obtain ⟨j, hj, rfl⟩ := List.getElem_of_mem hv
  have hlen := h.1
  rcases Nat.eq_zero_or_pos t.size with hz | hz
  · rw [hz] at hlen; simp at hlen; simp [hlen] at hj
  · have hi : j / t.size < xs.length := Nat.div_lt_of_lt_mul (by rw [Nat.mul_comm, ← hlen]; exact hj)
    have hr := h.2 _ hi
    refine Rd.oneCell _ _ _ hr _ ?_
    have hmod := Nat.mod_lt j hz
    have hdm := Nat.div_add_mod j t.size
    have : ((vs.drop (j / t.size * t.size)).take t.size)[j % t.size]? = some vs[j] := by
      rw [List.getElem?_take_of_lt hmod, List.getElem?_drop]
      have e : j / t.size * t.size + j % t.size = j := by rw [Nat.mul_comm]; exact hdm
      rw [e]; exact List.getElem?_eq_getElem hj
    exact List.mem_of_getElem? this

/-- Rows of one block. -/
theorem rows_of_cells {b off : Nat} {xs : List t.den} (hx : xs ≠ []) (h : ∀ i (h : i < xs.length), ∃ us, cellsAt w b (off + i * t.size) t.size us ∧ Rd w S t us xs[i]) :
    ∃ c e fr, w.heap[b]? = some (.cells c e fr) ∧ off + xs.length * t.size ≤ c.size ∧ Rows w S t ((c.toList.drop off).take (xs.length * t.size)) xs := by
  have hpos : 0 < xs.length := List.length_pos_iff.2 hx
  obtain ⟨us, ⟨c, e, fr, h1, h2, h3⟩, h4⟩ := h (xs.length - 1) (by omega)
  have hlast : off + xs.length * t.size ≤ c.size := by
    have : xs.length * t.size = (xs.length - 1) * t.size + t.size := by
      have : xs.length = (xs.length - 1) + 1 := by omega
      rw [this, Nat.add_mul]; simp
    omega
  refine ⟨c, e, fr, h1, hlast, ?_, fun i hi => ?_⟩
  · simp; omega
  · obtain ⟨us, ⟨c', e', fr', k1, k2, k3⟩, k4⟩ := h i hi
    rw [h1] at k1; simp at k1; obtain ⟨rfl, _, _⟩ := k1
    have h5 : (i + 1) * t.size ≤ xs.length * t.size := Nat.mul_le_mul_right _ hi
    rw [Nat.add_mul] at h5
    have e1 : (((c.toList.drop off).take (xs.length * t.size)).drop (i * t.size)).take t.size = (c.toList.drop (off + i * t.size)).take t.size := by
      rw [List.drop_take, List.take_take, List.drop_drop]
      congr 1; omega
    rw [e1, ← k3]; exact k4

theorem rowOwn_rows {v : Value} {xs : List t.den} {b : Nat} (h : RowOwn w S t v xs b) :
    ∃ cap vs e, v = .slice (some ⟨b, 0, none⟩) xs.length cap ∧ xs.length ≤ cap ∧ w.heap[b]? = some (.cells vs e (0, 0)) ∧ vs.size = cap * t.size ∧ Rows w S t (vs.toList.take (xs.length * t.size)) xs := by
  obtain ⟨len, cap, vs, e, h1, rfl, h3, h4, h5, h6⟩ := h
  refine ⟨cap, vs, e, h1, h3, h4, h5, ?_⟩
  by_cases hx : xs = []
  · subst hx
    refine ⟨by simp, fun i hi => by simp at hi⟩
  · obtain ⟨c, e', fr, k1, k2, k3⟩ := rows_of_cells (off := 0) hx (fun i hi => by
      obtain ⟨us, k1, k2⟩ := h6 i hi
      exact ⟨us, by simpa using k1, k2⟩)
    rw [h4] at k1; simp at k1; obtain ⟨rfl, _, _⟩ := k1
    simpa using k3
theorem rows_rowOwn {xs : List t.den} {b cap : Nat} {vs : Array Value} {e : TypeId} (hc : xs.length ≤ cap) (hb : w.heap[b]? = some (.cells vs e (0, 0))) (hs : vs.size = cap * t.size)
    (hr : Rows w S t (vs.toList.take (xs.length * t.size)) xs) : RowOwn w S t (.slice (some ⟨b, 0, none⟩) xs.length cap) xs b := by
  refine ⟨_, cap, vs, e, rfl, rfl, hc, hb, hs, fun i hi => ⟨_, ⟨vs, e, _, hb, ?_, rfl⟩, ?_⟩⟩
  · have h1 : (i + 1) * t.size ≤ cap * t.size := Nat.mul_le_mul_right _ (by omega)
    rw [Nat.add_mul] at h1
    omega
  · have := hr.2 i hi
    have h5 : (i + 1) * t.size ≤ xs.length * t.size := Nat.mul_le_mul_right _ hi
    rw [Nat.add_mul] at h5
    rw [List.drop_take, List.take_take] at this
    have e1 : min t.size (xs.length * t.size - i * t.size) = t.size := by omega
    rw [e1] at this
    exact this

/-- The rows behind a slice's header. -/
theorem rd_rows {v : Value} {xs : List t.den} (h : Rd w S (.sl t) [v] xs) :
    ∃ base cap news, v = .slice base xs.length cap ∧ xs.length ≤ cap ∧ Rows w S t news xs ∧ (base = none → xs = [] ∧ cap = 0) ∧ (∀ p, base = some p → (xs ≠ [] → p.spot = none) ∧ ∀ j u, news[j]? = some u → w.cell? (p.add j) = some u) := by
  obtain ⟨base, len, cap, h1, rfl, h3, h4, h5, h6⟩ := h
  simp at h1; subst h1
  by_cases hx : xs = []
  · subst hx
    exact ⟨base, cap, [], rfl, h3, ⟨by simp, fun i hi => by simp at hi⟩, fun e => ⟨rfl, h5 e⟩, fun p hp => ⟨fun e => (e rfl).elim, fun j u hj => by simp at hj⟩⟩
  · obtain ⟨p, rfl, hS, hr⟩ := h6 hx
    obtain ⟨c, e, fr, k1, k2, k3⟩ := rows_of_cells hx hr
    refine ⟨some p, cap, _, rfl, h3, k3, fun e => by simp at e, fun q hq => ?_⟩
    simp at hq; subst hq
    have hsp := h4 p rfl (by have := List.length_pos_iff.2 hx; omega)
    refine ⟨fun _ => hsp, fun j u hj => ?_⟩
    have ep : p = ⟨p.block, p.off, none⟩ := by cases p; simp at hsp; simp [hsp]
    rw [ep, addr_add, cell_of_row w p.block _ c e fr k1]
    have hj' : j < xs.length * t.size := by
      rcases Nat.lt_or_ge j (xs.length * t.size) with h | h
      · exact h
      · have := List.getElem?_eq_none (l := (c.toList.drop p.off).take (xs.length * t.size)) (i := j) (by simp; omega)
        rw [this] at hj; simp at hj
    rw [List.getElem?_take_of_lt hj', List.getElem?_drop] at hj
    simpa using hj
end


section append
variable {P : Program} {sg : FuncId → Option (Nat × List Nat)} {fresh : Nat} {X : Cx} {w : World} {S : Nat → Prop} {ρ : Nat → Option Value} {H : Nat → Option Nat} {N : Nat} {st : St} {a : Act} {o : Oper} {x : Out} {lg lg' : List Loc}

theorem rowsA_spec {t : Ty} {y : TV} {r : (List t.den × List (Nat × Option Blk)) × List Loc} (h : (rowsA t y).run st lg = some r) (hm : Mem X w S ρ H st.blk) :
    ToSettle st r.1.2 ∧ ∀ {S' : Nat → Prop} {v : Value}, (∀ b, S b → S' b) → Settled w S' ρ r.1.2 → RepTV w S ρ y v → Rd w S' (.sl t) [v] r.1.1 := by
  unfold rowsA at h
  split at h
  · exact toD_spec h hm
  · exact (run_fail h).elim

/-- What the second argument of an append yields. -/
theorem appended_src {e tx : TypeId} {t : Ty} {y : TV} {r : (List t.den × List (Nat × Option Blk)) × List Loc} (h : (appended t y).run st lg = some r) (hm : Mem X w S ρ H st.blk)
    (htx : seqT P tx = true) {yv : Value} (hy : RepTV w S ρ y yv) :
    ToSettle st r.1.2 ∧ ∀ {S' : Nat → Prop}, (∀ b, S b → S' b) → Settled w S' ρ r.1.2 → ∃ news, Src P t.size tx yv r.1.1.length news w ∧ Rows w S' t news r.1.1 := by
  have hk : (∃ e', P.underlying tx = some (.slice e')) ∨ P.underlying tx = some .string := by
    unfold seqT at htx
    split at htx
    · rename_i e' h1; exact .inl ⟨e', h1⟩
    · rename_i h1; exact .inr h1
    · simp at htx
  unfold appended at h
  split at h
  · rename_i z
    have := run_pure' h; subst this
    refine ⟨ToSettle.nil, fun hS _ => ⟨byteCells z, ?_, ?_⟩⟩
    · have hv := rep_s hy
      subst hv
      refine ⟨hk, fun _ => by simp [Builtin.lenOf], ?_, ?_, ?_, ?_⟩
      · simpa [Ty.size] using firstCells_string z w
      · simpa [Ty.size] using firstCells_string z w.drew
      · simp [Ty.size, byteCells]
      · intro u hu
        obtain ⟨_, _, rfl⟩ := List.mem_map.1 hu
        rfl
    · refine ⟨by simp [Ty.size, byteCells], fun i hi => ?_⟩
      simp at hi
      simp [Ty.size, byteCells, Rd]
      rw [List.drop_eq_getElem_cons (by simpa using hi)]
      simp
  · obtain ⟨h1, h2⟩ := rowsA_spec h hm
    refine ⟨h1, fun hS hset => ?_⟩
    obtain ⟨base, cap, news, rfl, hcap, hr, hn, hp⟩ := rd_rows (h2 hS hset hy)
    refine ⟨news, ?_, hr⟩
    have hlen : news.length = r.1.1.length * t.size := hr.1
    refine ⟨hk, fun _ => rfl, ?_, ?_, hlen, hr.one⟩
    · cases base with
      | none =>
        obtain ⟨e1, _⟩ := hn rfl
        have : news = [] := by rw [e1] at hlen; simpa using hlen
        rw [this]
        simp [Builtin.firstCells]
      | some p =>
        have := run_loadCells_list (P := P) w p news (hp p rfl).2
        rw [hlen] at this
        simpa [Builtin.firstCells] using this
    · cases base with
      | none =>
        obtain ⟨e1, _⟩ := hn rfl
        have : news = [] := by rw [e1] at hlen; simpa using hlen
        rw [this]
        simp [Builtin.firstCells]
      | some p =>
        have := run_loadCells_list (P := P) w.drew p news (fun j u hj => by simpa using (hp p rfl).2 j u hj)
        rw [hlen] at this
        simpa [Builtin.firstCells] using this

/-- Room: the cells are stored behind the length. -/
theorem append_room {t tx ty e : TypeId} {i : TypeInfo} (ht : P.underlying t = some (.slice e)) (hi : P.info? e = some i) {b sLen sCap : Nat} {v : Value} {n : Nat} {news : List Value} (hs : Src P i.size tx v n news w)
    (hroom : sLen + n ≤ sCap) {vs : Array Value} {el : TypeId} (hb : w.heap[b]? = some (.cells vs el (0, 0))) (hsz : sCap * i.size ≤ vs.size) :
    (Builtin.append_ #[t, tx] ty #[.slice (some ⟨b, 0, none⟩) sLen sCap, v]).run P w = .ok (.slice (some ⟨b, 0, none⟩) (sLen + n) sCap)
      (w.setRow b (vs.toList.take (sLen * i.size) ++ news ++ vs.toList.drop (sLen * i.size + news.length)).toArray) := by
  have hle : (sLen + n) * i.size ≤ sCap * i.size := Nat.mul_le_mul_right _ hroom
  rw [Nat.add_mul] at hle
  have hst := run_storeCells_at P b (sLen * i.size) el news 0 vs w hb (by rw [hs.newsLen]; omega) hs.one
  simp only [Nat.add_zero] at hst
  rcases hs.kind with ⟨e', hk⟩ | hk <;> simp [Builtin.append_, run_underlying ht, run_underlying hk, Go.sizeOf, typeInfo, hi, hs.len, hroom, hs.cells, addr_add, hst]

/-- Nothing onto a row: the row. -/
theorem append_nothing {t tx ty e : TypeId} {i : TypeInfo} (ht : P.underlying t = some (.slice e)) (hi : P.info? e = some i) {base : Option Addr} {sLen sCap : Nat} {v : Value} {news : List Value} (hs : Src P i.size tx v 0 news w)
    (hc : sLen ≤ sCap) : (Builtin.append_ #[t, tx] ty #[.slice base sLen sCap, v]).run P w = .ok (.slice base sLen sCap) w := by
  have hn : news = [] := by have := hs.newsLen; simpa using this
  subst hn
  have hst : ∀ q : Addr, (storeCells q []).run P w = .ok () w := fun q => by simp [storeCells]
  cases base <;> rcases hs.kind with ⟨e', hk⟩ | hk <;> simp [Builtin.append_, run_underlying ht, run_underlying hk, Go.sizeOf, typeInfo, hi, hs.len, hs.cells, hc, hst]

theorem zeroCells_size (z : Array Value) (n : Nat) : (Builtin.zeroCells z n).size = n * z.size := by simp [Builtin.zeroCells]

theorem appendee_spec {t : Ty} {s : TV} {sv : Value} {r : (List t.den × List (Nat × Option Blk)) × List Loc} (h : (appendee t s).run st lg = some r) (hs : RepTV w S ρ s sv) :
    (r.1.2 = [] ∧ r.1.1 = [] ∧ sv = .slice none 0 0) ∨ (∃ n excl, r.1.2 = [(n, none)] ∧ st.blk n = some (some (.own t excl r.1.1)) ∧ ρ n = some sv) := by
  unfold appendee at h
  split at h
  · have := run_pure' h; subst this
    obtain ⟨rfl, _⟩ := hs
    exact .inl ⟨rfl, rfl, rfl⟩
  · rename_i n
    obtain ⟨B, lg1, h1, h⟩ := run_bind_some h
    have hb := run_rB h1
    simp only at h hb
    split at h
    · rename_i u excl xs
      split at h
      · rename_i e; subst e
        have := run_pure h; subst this
        exact .inr ⟨n, excl, rfl, hb, hs.1⟩
      · exact (run_fail h).elim
    · exact (run_fail h).elim
  · exact (run_fail h).elim

/-- An append, whatever is appended. -/
theorem appendA_does {ty tx rt : TypeId} {s y : TV} {sv yv : Value} (h : (appendA P fresh ty tx s y).run st lg = some (.out x, lg')) (hR : Rep X w S ρ H N st a) (hs : RepTV w S ρ s sv) (hy : RepTV w S ρ y yv)
    {q : Sem Next} (hq : ∀ v w', (Builtin.append_ #[ty, tx] rt #[sv, yv]).run P w = .ok v w' → q.run P w = .ok (.value v) w') : Does P X N st a w S ρ q x := by
  unfold appendA at h
  split at h
  · rename_i e hu
    split at h
    · rename_i t htt
      split at h
      · rename_i inf hel
        obtain ⟨⟨ys, wr⟩, lg1, h1, h⟩ := run_bind_some h
        obtain ⟨⟨xs, gone⟩, lg2, h2, h⟩ := run_bind_some h
        obtain ⟨_, lg3, h3, h⟩ := run_bind_some h
        have hg := run_guard h3
        simp only [decide_eq_true_eq, maxBytes] at hg
        have h := run_rdB h
        split at h
        · rename_i hfresh
          split at h
          · rename_i hc
            simp only [Bool.and_eq_true] at hc
            obtain ⟨⟨hgrow, htx⟩, hap⟩ := hc
            have := run_pure' h; simp at this; obtain ⟨rfl, _⟩ := this
            obtain ⟨e', hue, hie, hsz⟩ := elemOk_some hel
            rw [hu] at hue; simp at hue; subst hue
            unfold growOk at hgrow
            simp only [Bool.and_eq_true, decide_eq_true_eq] at hgrow
            obtain ⟨hb1, hz⟩ := hgrow
            obtain ⟨z, hz', hz⟩ : ∃ z, inf.zero = some z ∧ z.cells.size = inf.size := by
              cases hzz : inf.zero with
              | none => simp [hzz] at hz
              | some z => exact ⟨z, rfl, by simpa [hzz] using hz⟩
            obtain ⟨hts, hsrc⟩ := appended_src (P := P) (e := e) h1 hR.mem htx hy
            simp only at hts hsrc hg hap
            obtain ⟨S1, H1, hm1, hmore1, hset1⟩ := settle_all wr hR.mem hts.all
            obtain ⟨news, hS, hrows⟩ := hsrc hmore1.s hset1
            rw [← hsz] at hS
            have hg : (xs.length + ys.length) * inf.bytes ≤ 35184372088832 := of_decide_eq_true hg
            have hneed : xs.length + ys.length ≤ 35184372088832 := by
              have := Nat.le_mul_of_pos_right (xs.length + ys.length) (show 0 < inf.bytes by omega)
              omega
            have hfit : ∀ c, c < xs.length + ys.length → Builtin.nextslicecap (xs.length + ys.length) c * inf.bytes ≤ 281474976710656 := fun c hc =>
              growslice_fits hc (Nat.le_trans hg (by decide))
            -- a new row
            have grow : ∀ (base : Option Addr) (sCap : Nat) (olds : List Value) (S2 : Nat → Prop) (H2 : Nat → Option Nat) (blk2 : Nat → Option (Option Blk)), sv = .slice base xs.length sCap → sCap < xs.length + ys.length →
                (Builtin.firstCells inf.size xs.length (.slice base xs.length sCap)).run P w.drew = .ok olds.toArray w.drew → Rows w S2 t olds xs → Mem X w S2 ρ H2 blk2 → (∀ b, S1 b → S2 b) → blk2 fresh = none →
                ∃ v w', q.run P w = .ok (.value v) w' ∧ Mem X w' S2 (upd ρ fresh (some v)) (upd H2 fresh (some w.heap.size)) (upd blk2 fresh (some (some (.own t false (xs ++ ys))))) ∧ More w w' S2 S2 ρ (upd ρ fresh (some v)) ∧ (∃ base len cap, v = .slice base len cap) := by
              intro base sCap olds S2 H2 blk2 hsv hlt hold hro hm2 hS12 hf2
              have hrun := run_append_grow_src (P := P) w ty tx rt e inf z hu hie hz' base xs.length sCap olds hold yv ys.length news hS hlt (by omega) (hfit _ hlt)
              rw [← hsv] at hrun
              have hcap : xs.length + ys.length ≤ grownCap w (xs.length + ys.length) sCap e := by simp [grownCap, Question.cut]
              generalize hgc : grownCap w (xs.length + ys.length) sCap e = gc at hrun hcap
              generalize harr : ((olds ++ news).toArray ++ Builtin.zeroCells z.cells (gc - (xs.length + ys.length))) = arr at hrun
              have hon : (olds ++ news).length = (xs.length + ys.length) * t.size := by rw [List.length_append, hro.1, hrows.1, Nat.add_mul]
              have hasz : arr.size = gc * t.size := by
                rw [← harr, Array.size_append, zeroCells_size, hz, hsz]
                simp only [List.size_toArray]
                rw [hon, ← Nat.add_mul]; congr 1; omega
              have htake : arr.toList.take ((xs ++ ys).length * t.size) = olds ++ news := by
                rw [← harr]
                simp only [Array.toList_append, List.length_append]
                rw [List.take_append_of_le_length (by simpa using Nat.le_of_eq hon.symm)]
                exact List.take_of_length_le (Nat.le_of_eq hon)
              have hlt' : ∀ k, k < w.heap.size → (w.drew.alloc (.cells arr e)).heap[k]? = w.heap[k]? := fun k hk => by
                show (w.heap.push _)[k]? = _
                rw [Array.getElem?_push, if_neg (by omega)]
              have hnew : (w.drew.alloc (.cells arr e)).heap[w.heap.size]? = some (.cells arr e (0, 0)) := by
                show (w.heap.push _)[w.heap.size]? = _
                simp
              have hrow : RowOwn (w.drew.alloc (.cells arr e)) S2 t (.slice (some ⟨w.heap.size, 0, none⟩) (xs ++ ys).length gc) (xs ++ ys) w.heap.size := by
                refine rows_rowOwn (by simpa using hcap) hnew hasz ?_
                rw [htake]
                exact (hro.append (hrows.mono hS12 (fun _ _ => rfl))).mono (fun _ x => x) (fun b hb => hlt' b (hm2.old b hb))
              obtain ⟨hmem, hmore⟩ := hm2.adopt hf2 (home := some w.heap.size) (w' := w.drew.alloc (.cells arr e))
                (fun b hb => by
                  simp at hb; subst hb
                  exact ⟨.inr hm2.size, fun hs => by have := hm2.old _ hs; omega, fun m C hC hh => by have := (hm2.rep m C hC).home_lt hh; omega⟩)
                (by show w.heap.size ≤ (w.heap.push _).size; simp) (fun k hk _ => hlt' k hk) rfl rfl rfl
                (v := .slice (some ⟨w.heap.size, 0, none⟩) (xs ++ ys).length gc) (B := .own t false (xs ++ ys))
                ⟨_, by rw [upd_same], .inl ⟨_, rfl, hrow⟩⟩
              exact ⟨_, _, hq _ _ (by rw [hrun, List.length_append]), hmem, hmore, _, _, _, rfl⟩
            -- nothing, onto a row without room
            have nothing : ∀ (base : Option Addr) (sCap : Nat) (S2 : Nat → Prop) (H2 : Nat → Option Nat) (blk2 : Nat → Option (Option Blk)), sv = .slice base xs.length sCap → ys = [] → xs.length ≤ sCap →
                ∀ (home : Option Nat), (∀ b, home = some b → X.mine b ∧ ¬ S2 b ∧ ∀ m C, blk2 m = some (some C) → H2 m ≠ some b) → ((∃ b, home = some b ∧ RowOwn w S2 t sv xs b) ∨ (home = none ∧ RowFull w S2 t sv xs)) →
                Mem X w S2 ρ H2 blk2 → blk2 fresh = none →
                ∃ v w', q.run P w = .ok (.value v) w' ∧ Mem X w' S2 (upd ρ fresh (some v)) (upd H2 fresh home) (upd blk2 fresh (some (some (.own t false (xs ++ ys))))) ∧ More w w' S2 S2 ρ (upd ρ fresh (some v)) ∧ (∃ base len cap, v = .slice base len cap) := by
              intro base sCap S2 H2 blk2 hsv hys hle home hhome hrow hm2 hf2
              subst hys
              have hrun := append_nothing (P := P) (w := w) (ty := rt) hu hie (base := base) (sLen := xs.length) (sCap := sCap) hS hle
              rw [← hsv] at hrun
              obtain ⟨hmem, hmore⟩ := hm2.adopt hf2 (home := home) (w' := w) hhome (Nat.le_refl _) (fun k hk _ => rfl) rfl rfl rfl (v := sv) (B := .own t false (xs ++ []))
                ⟨sv, by rw [upd_same], by
                  rw [List.append_nil]
                  rcases hrow with h' | ⟨h', h''⟩
                  · exact .inl h'
                  · exact .inr ⟨rfl, h', h''⟩⟩
              exact ⟨_, _, hq _ _ hrun, hmem, hmore, _, _, _, hsv⟩
            have finish : ∀ {S2 H2 v w' blk2} {home : Option Nat}, (∀ b, S1 b → S2 b) → blk2 = ((st.sets wr).sets gone).blk → q.run P w = .ok (.value v) w' → Mem X w' S2 (upd ρ fresh (some v)) (upd H2 fresh home) (upd blk2 fresh (some (some (.own t false (xs ++ ys))))) →
                More w w' S2 S2 ρ (upd ρ fresh (some v)) → (∃ base len cap, v = .slice base len cap) → Does P X N st a w S ρ q { tv := .v (.one (.own fresh)), wr := wr ++ (gone ++ [(fresh, some (.own t false (xs ++ ys)))]) } := by
              intro S2 H2 v w' blk2 home hS12 hblk hrun hmem hmore hsl
              have hM : More w w' S S2 ρ (upd ρ fresh (some v)) := ⟨fun b hb => hS12 b (hmore1.s b hb), fun b hb => hmore.heap b (hS12 b (hmore1.s b hb)), hmore.names⟩
              refine ⟨v, w', S2, upd ρ fresh (some v), upd H2 fresh home, .inl hrun, hR.of_mem (st' := st.sets _) ?_ hM (sets_tmp _ _), ⟨by rw [upd_same], hsl⟩, hM⟩
              rw [sets_append, sets_append]
              show Mem X w' S2 _ _ (upd ((st.sets wr).sets gone).blk fresh (some (some (.own t false (xs ++ ys)))))
              rw [← hblk]; exact hmem
            have hfw : (st.sets wr).blk fresh = none := by
              rw [sets_other]
              · exact hfresh
              · intro p hp e
                obtain ⟨t', ex, xs', _, h5⟩ := hts p hp
                rw [e, hfresh] at h5; simp at h5
            rcases appendee_spec h2 hs with ⟨e1, e2, rfl⟩ | ⟨n, excl, e1, hn, hρn⟩
            · simp only at e1 e2
              subst e1; subst e2
              by_cases hys : ys = []
              · obtain ⟨v, w', k1, k2, k3, k4⟩ := nothing none 0 S1 H1 _ rfl hys (Nat.le_refl _) none (fun b hb => by simp at hb) (.inr ⟨rfl, rd_nil, none, rfl⟩) hm1 hfw
                exact finish (fun _ x => x) rfl k1 k2 k3 k4
              · obtain ⟨v, w', k1, k2, k3, k4⟩ := grow none 0 [] S1 H1 _ rfl (by have := List.length_pos_iff.2 hys; simpa using this) (by simp [Builtin.firstCells]) ⟨by simp, fun i hi => by simp at hi⟩ hm1 (fun _ x => x) hfw
                exact finish (fun _ x => x) rfl k1 k2 k3 k4
            · simp only at e1 hn
              subst e1
              have hnw : n ∉ wr.map (·.1) := apartL_spec hap n (by simp)
              have hn1 : (st.sets wr).blk n = some (some (.own t excl xs)) := by
                rw [sets_other]
                · exact hn
                · intro p hp e; exact hnw (List.mem_map.2 ⟨p, hp, e⟩)
              obtain ⟨v', hv', hrow⟩ := hm1.rep n _ hn1
              rw [hρn] at hv'; simp at hv'; subst hv'
              have hnf : n ≠ fresh := by rintro rfl; rw [hfresh] at hn; simp at hn
              have hdrop := hm1.drop hn1
              have hf2 : upd (st.sets wr).blk n (some none) fresh = none := by rw [upd_other _ _ (Ne.symm hnf)]; exact hfw
              have hlive : ∀ b, H1 n = some b → ∀ m C, upd (st.sets wr).blk n (some none) m = some (some C) → H1 m ≠ some b := by
                intro b hb m C hC hh
                by_cases e : m = n
                · subst e; rw [upd_same] at hC; simp at hC
                · rw [upd_other _ _ e] at hC
                  exact e (hm1.sep m n C _ b hC hn1 hh hb)
              rcases hrow with ⟨b, hb, hrow⟩ | ⟨_, hb, hfull⟩
              · have hmine := hm1.homes n _ b hn1 hb
                have hapart := hm1.apart n _ b hn1 hb
                obtain ⟨cap, vs, el, rfl, hcap, hheap, hvs, hro⟩ := rowOwn_rows hrow
                by_cases hroom : xs.length + ys.length ≤ cap
                · have hrun := append_room (P := P) (ty := rt) hu hie (b := b) hS hroom hheap (by rw [hvs, hsz]; exact Nat.le_refl _)
                  rw [hsz] at hrun
                  have hle : (xs.length + ys.length) * t.size ≤ cap * t.size := Nat.mul_le_mul_right _ hroom
                  have hnl : news.length = ys.length * t.size := hrows.1
                  generalize harr : (vs.toList.take (xs.length * t.size) ++ news ++ vs.toList.drop (xs.length * t.size + news.length)) = arr at hrun
                  have hxl : (vs.toList.take (xs.length * t.size)).length = xs.length * t.size := by rw [Nat.add_mul] at hle; simp; omega
                  have hal : arr.length = cap * t.size := by
                    rw [Nat.add_mul] at hle
                    rw [← harr]; simp; omega
                  have htake : arr.take ((xs ++ ys).length * t.size) = vs.toList.take (xs.length * t.size) ++ news := by
                    rw [← harr, List.length_append, Nat.add_mul]
                    have : (vs.toList.take (xs.length * t.size) ++ news).length = xs.length * t.size + ys.length * t.size := by rw [List.length_append, hxl, hnl]
                    rw [List.take_append_of_le_length (by omega)]
                    exact List.take_of_length_le (by omega)
                  have hoth : ∀ k, k ≠ b → (w.setRow b arr.toArray).heap[k]? = w.heap[k]? := fun k hk => setRow_other w b k _ hk
                  have hrow' : RowOwn (w.setRow b arr.toArray) S1 t (.slice (some ⟨b, 0, none⟩) (xs ++ ys).length cap) (xs ++ ys) b := by
                    refine rows_rowOwn (by simpa using hroom) (setRow_heap w b vs _ el _ hheap) (by simpa using hal) ?_
                    simp only
                    rw [htake]
                    exact (hro.append hrows).mono (fun _ x => x) (fun k hk => hoth k (fun e => hapart (e ▸ hk)))
                  obtain ⟨hmem, hmore⟩ := hdrop.adopt hf2 (home := some b) (w' := w.setRow b arr.toArray)
                    (fun b' hb' => by simp at hb'; subst hb'; exact ⟨hmine, hapart, hlive _ hb⟩) (by simp) (fun k hk hne => hoth k (fun e => hne (by rw [e]))) rfl rfl rfl
                    (v := .slice (some ⟨b, 0, none⟩) (xs ++ ys).length cap) (B := .own t false (xs ++ ys)) ⟨_, by rw [upd_same], .inl ⟨_, rfl, hrow'⟩⟩
                  exact finish (fun _ x => x) rfl (hq _ _ (by rw [hrun, List.length_append])) hmem hmore ⟨_, _, _, rfl⟩
                · have hpre : (Builtin.firstCells inf.size xs.length (.slice (some ⟨b, 0, none⟩) xs.length cap)).run P w.drew = .ok (vs.toList.take (xs.length * t.size)).toArray w.drew := by
                    have hle : xs.length * t.size ≤ cap * t.size := Nat.mul_le_mul_right _ hcap
                    have hl : (vs.toList.take (xs.length * t.size)).length = xs.length * t.size := by simp; omega
                    have := run_loadCells_list (P := P) w.drew ⟨b, 0, none⟩ (vs.toList.take (xs.length * t.size)) (fun j u hj => by
                      rw [addr_add]
                      have hc := cell_of_row w.drew b (0 + j) vs el (0, 0) hheap
                      rw [hc]
                      have hj' : j < xs.length * t.size := by
                        rcases Nat.lt_or_ge j (xs.length * t.size) with h | h
                        · exact h
                        · rw [List.getElem?_eq_none (by omega)] at hj; simp at hj
                      rw [List.getElem?_take_of_lt hj'] at hj
                      simpa using hj)
                    rw [hl] at this
                    simpa [Builtin.firstCells, hsz] using this
                  obtain ⟨v, w', k1, k2, k3, k4⟩ := grow _ cap _ S1 H1 _ rfl (by omega) hpre hro hdrop (fun _ x => x) hf2
                  exact finish (fun _ x => x) rfl k1 k2 k3 k4
              · obtain ⟨hfr, base, rfl⟩ := hfull
                by_cases hys : ys = []
                · obtain ⟨v, w', k1, k2, k3, k4⟩ := nothing base xs.length S1 H1 _ rfl hys (Nat.le_refl _) none (fun b hb => by simp at hb) (.inr ⟨rfl, hfr, base, rfl⟩) hdrop hf2
                  exact finish (fun _ x => x) rfl k1 k2 k3 k4
                · obtain ⟨base', cap', olds, e3, hc3, hro, hno, hpo⟩ := rd_rows hfr
                  simp at e3; obtain ⟨rfl, rfl⟩ := e3
                  have hlen : olds.length = xs.length * t.size := hro.1
                  have hpre : (Builtin.firstCells inf.size xs.length (.slice base xs.length xs.length)).run P w.drew = .ok olds.toArray w.drew := by
                    cases base with
                    | none =>
                      obtain ⟨e1, _⟩ := hno rfl
                      have : olds = [] := by rw [e1] at hlen; simpa using hlen
                      rw [this]
                      simp [Builtin.firstCells]
                    | some p =>
                      have := run_loadCells_list (P := P) w.drew p olds (fun j u hj => by simpa using (hpo p rfl).2 j u hj)
                      rw [hlen] at this
                      simpa [Builtin.firstCells, hsz] using this
                  obtain ⟨v, w', k1, k2, k3, k4⟩ := grow base xs.length _ S1 H1 _ rfl (by have := List.length_pos_iff.2 hys; omega) hpre hro hdrop (fun _ x => x) hf2
                  exact finish (fun _ x => x) rfl k1 k2 k3 k4
          · exact (run_fail h).elim
        · exact (run_fail h).elim
      · exact (run_fail h).elim
    · exact (run_fail h).elim
  · exact (run_fail h).elim
end append
end Go.Proofs.Ytndkobhclggeiaa.Aev
