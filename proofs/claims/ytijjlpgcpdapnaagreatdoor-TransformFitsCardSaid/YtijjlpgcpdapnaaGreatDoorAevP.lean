import Derived.Test.YtijjlpgcpdapnaaGreatDoorAevH
import Derived.Deep.AppendSrc
import Derived.Laws.BytesString
import Derived.Laws.Strings
import Derived.Great.BuildSlice
import Derived.Laws.MakeOwn
import Derived.Carry
/- AEV: an evaluator of loaded functions over abstract values, and that it is sound: I J K L P. -/
/- AEV: rows of memory, appends and conversions. -/
namespace Go.Proofs.YtijjlpgcpdapnaaGreatDoor.Aev
set_option linter.unusedVariables false
set_option linter.unusedSimpArgs false
open Go

def Rows (w : World) (S : Nat → Prop) (t : Ty) (vs : List Value) (xs : List t.den) : Prop :=
 vs.length = xs.length * t.size ∧ ∀ i (h : i < xs.length), Rd w S t ((vs.drop (i * t.size)).take t.size) xs[i]

section
variable {w w' : World} {S S' : Nat → Prop} {t : Ty}
theorem Rows.mono (hS : ∀ b, S b → S' b) (hw : ∀ b, S b → w'.heap[b]? = w.heap[b]?) {vs : List Value} {xs : List t.den} (h : Rows w S t vs xs) : Rows w' S' t vs xs :=
 ⟨h.1, fun i hi => Rd.mono hS hw _ _ _ (h.2 i hi)⟩
theorem Rows.append {vs us : List Value} {xs ys : List t.den} (h : Rows w S t vs xs) (k : Rows w S t us ys) : Rows w S t (vs ++ us) (xs ++ ys) := by
 refine ⟨by simp [h.1, k.1, Nat.add_mul], fun i hi => ?_⟩
 by_cases hl : i < xs.length
 ·have h1 : (i + 1) * t.size ≤ xs.length * t.size := Nat.mul_le_mul_right _ hl
  rw [Nat.add_mul] at h1
  have e : ((vs ++ us).drop (i * t.size)).take t.size = (vs.drop (i * t.size)).take t.size := by
   rw [List.drop_append_of_le_length (by rw [h.1]; omega), List.take_append_of_le_length (by simp [h.1]; omega)]
  rw [e, List.getElem_append_left hl]
  exact h.2 i hl
 ·have hi' : i - xs.length < ys.length := by simp at hi; omega
  have hm : i * t.size = vs.length + (i - xs.length) * t.size := by rw [h.1, ← Nat.add_mul]; congr 1; omega
  have e : ((vs ++ us).drop (i * t.size)).take t.size = (us.drop ((i - xs.length) * t.size)).take t.size := by
   rw [hm, List.drop_append, List.drop_eq_nil_of_le (Nat.le_add_right _ _)]
   simp
  rw [e, List.getElem_append_right (by omega)]
  exact k.2 _ hi'
theorem Rows.one {vs : List Value} {xs : List t.den} (h : Rows w S t vs xs) : ∀ v ∈ vs, v.oneCell' = true := by
 intro v hv
 obtain ⟨j, hj, rfl⟩ := List.getElem_of_mem hv
 have hlen := h.1
 rcases Nat.eq_zero_or_pos t.size with hz | hz
 ·rw [hz] at hlen; simp at hlen; simp [hlen] at hj
 ·have hi : j / t.size < xs.length := Nat.div_lt_of_lt_mul (by rw [Nat.mul_comm, ← hlen]; exact hj)
  have hr := h.2 _ hi
  refine Rd.oneCell _ _ _ hr _ ?_
  have hmod := Nat.mod_lt j hz
  have hdm := Nat.div_add_mod j t.size
  have : ((vs.drop (j / t.size * t.size)).take t.size)[j % t.size]? = some vs[j] := by
   rw [List.getElem?_take_of_lt hmod, List.getElem?_drop]
   have e : j / t.size * t.size + j % t.size = j := by rw [Nat.mul_comm]; exact hdm
   rw [e]; exact List.getElem?_eq_getElem hj
  exact List.mem_of_getElem? this

theorem rows_of_cells {b off : Nat} {xs : List t.den} (hx : xs ≠ []) (h : ∀ i (h : i < xs.length), ∃ us, cellsAt w b (off + i * t.size) t.size us ∧ Rd w S t us xs[i]) :
  ∃ c e fr, w.heap[b]? = some (.cells c e fr) ∧ off + xs.length * t.size ≤ c.size ∧ Rows w S t ((c.toList.drop off).take (xs.length * t.size)) xs := by
 have hpos : 0 < xs.length := List.length_pos_iff.2 hx
 obtain ⟨us, ⟨c, e, fr, h1, h2, h3⟩, h4⟩ := h (xs.length - 1) (by omega)
 have hlast : off + xs.length * t.size ≤ c.size := by
  have : xs.length * t.size = (xs.length - 1) * t.size + t.size := by
   have : xs.length = (xs.length - 1) + 1 := by omega
   rw [this, Nat.add_mul]; simp
  omega
 refine ⟨c, e, fr, h1, hlast, ?_, fun i hi => ?_⟩
 ·simp; omega
 ·obtain ⟨us, ⟨c', e', fr', k1, k2, k3⟩, k4⟩ := h i hi
  rw [h1] at k1; simp at k1; obtain ⟨rfl, _, _⟩ := k1
  have h5 : (i + 1) * t.size ≤ xs.length * t.size := Nat.mul_le_mul_right _ hi
  rw [Nat.add_mul] at h5
  have e1 : (((c.toList.drop off).take (xs.length * t.size)).drop (i * t.size)).take t.size = (c.toList.drop (off + i * t.size)).take t.size := by
   rw [List.drop_take, List.take_take, List.drop_drop]
   congr 1; omega
  rw [e1, ← k3]; exact k4

theorem rowOwn_rows {v : Value} {xs : List t.den} {b : Nat} (h : RowOwn w S t v xs b) :
  ∃ cap vs e, v = .slice (some ⟨b, 0, none⟩) xs.length cap ∧ xs.length ≤ cap ∧ w.heap[b]? = some (.cells vs e (0, 0)) ∧ vs.size = cap * t.size ∧ Rows w S t (vs.toList.take (xs.length * t.size)) xs := by
 obtain ⟨len, cap, vs, e, h1, rfl, h3, h4, h5, h6⟩ := h
 refine ⟨cap, vs, e, h1, h3, h4, h5, ?_⟩
 by_cases hx : xs = []
 ·subst hx
  refine ⟨by simp, fun i hi => by simp at hi⟩
 ·obtain ⟨c, e', fr, k1, k2, k3⟩ := rows_of_cells (off := 0) hx (fun i hi => by
   obtain ⟨us, k1, k2⟩ := h6 i hi
   exact ⟨us, by simpa using k1, k2⟩)
  rw [h4] at k1; simp at k1; obtain ⟨rfl, _, _⟩ := k1
  simpa using k3
theorem rows_rowOwn {xs : List t.den} {b cap : Nat} {vs : Array Value} {e : TypeId} (hc : xs.length ≤ cap) (hb : w.heap[b]? = some (.cells vs e (0, 0))) (hs : vs.size = cap * t.size)
  (hr : Rows w S t (vs.toList.take (xs.length * t.size)) xs) : RowOwn w S t (.slice (some ⟨b, 0, none⟩) xs.length cap) xs b := by
 refine ⟨_, cap, vs, e, rfl, rfl, hc, hb, hs, fun i hi => ⟨_, ⟨vs, e, _, hb, ?_, rfl⟩, ?_⟩⟩
 ·have h1 : (i + 1) * t.size ≤ cap * t.size := Nat.mul_le_mul_right _ (by omega)
  rw [Nat.add_mul] at h1
  omega
 ·have := hr.2 i hi
  have h5 : (i + 1) * t.size ≤ xs.length * t.size := Nat.mul_le_mul_right _ hi
  rw [Nat.add_mul] at h5
  rw [List.drop_take, List.take_take] at this
  have e1 : min t.size (xs.length * t.size - i * t.size) = t.size := by omega
  rw [e1] at this
  exact this

theorem rd_rows {v : Value} {xs : List t.den} (h : Rd w S (.sl t) [v] xs) :
  ∃ base cap news, v = .slice base xs.length cap ∧ xs.length ≤ cap ∧ Rows w S t news xs ∧ (base = none → xs = [] ∧ cap = 0) ∧ (∀ p, base = some p → (xs ≠ [] → p.spot = none) ∧ ∀ j u, news[j]? = some u → w.cell? (p.add j) = some u) := by
 obtain ⟨base, len, cap, h1, rfl, h3, h4, h5, h6⟩ := h
 simp at h1; subst h1
 by_cases hx : xs = []
 ·subst hx
  exact ⟨base, cap, [], rfl, h3, ⟨by simp, fun i hi => by simp at hi⟩, fun e => ⟨rfl, h5 e⟩, fun p hp => ⟨fun e => (e rfl).elim, fun j u hj => by simp at hj⟩⟩
 ·obtain ⟨p, rfl, hS, hr⟩ := h6 hx
  obtain ⟨c, e, fr, k1, k2, k3⟩ := rows_of_cells hx hr
  refine ⟨some p, cap, _, rfl, h3, k3, fun e => by simp at e, fun q hq => ?_⟩
  simp at hq; subst hq
  have hsp := h4 p rfl (by have := List.length_pos_iff.2 hx; omega)
  refine ⟨fun _ => hsp, fun j u hj => ?_⟩
  have ep : p = ⟨p.block, p.off, none⟩ := by cases p; simp at hsp; simp [hsp]
  rw [ep, addr_add, cell_of_row w p.block _ c e fr k1]
  have hj' : j < xs.length * t.size := by
   rcases Nat.lt_or_ge j (xs.length * t.size) with h | h
   ·exact h
   ·have := List.getElem?_eq_none (l := (c.toList.drop p.off).take (xs.length * t.size)) (i := j) (by simp; omega)
    rw [this] at hj; simp at hj
  rw [List.getElem?_take_of_lt hj', List.getElem?_drop] at hj
  simpa using hj
end


section append
variable {P : Program} {sg : FuncId → Option (Nat × List Nat)} {fresh : Nat} {X : Cx} {w : World} {S : Nat → Prop} {ρ : Nat → Option Value} {H : Nat → Option Nat} {N : Nat} {st : St} {a : Act} {o : Oper} {x : Out} {lg lg' : List Loc}

theorem rowsA_spec {t : Ty} {y : TV} {r : (List t.den × List (Nat × Option Blk)) × List Loc} (h : (rowsA t y).run st lg = some r) (hm : Mem X w S ρ H st.blk) :
  ToSettle st r.1.2 ∧ ∀ {S' : Nat → Prop} {v : Value}, (∀ b, S b → S' b) → Settled w S' ρ r.1.2 → RepTV w S ρ y v → Rd w S' (.sl t) [v] r.1.1 := by
 unfold rowsA at h
 split at h
 ·obtain ⟨⟨y, wr, l⟩, lg1, h1, h⟩ := rbs h
  obtain ⟨hts, l1, e1, n1, hrd⟩ := asm_spec _ h1 hm
  simp only at h hts e1 hrd
  split at h
  ·have := run_pure h; subst this
   have e1 : l1 = _ := (by simpa using e1.symm)
   subst e1
   exact ⟨hts, fun hS hset hv => hrd hS hset ⟨hv, trivial⟩⟩
  ·exact (rfl0 h).elim
 ·exact (rfl0 h).elim

theorem appended_src {e tx : TypeId} {t : Ty} {y : TV} {r : (List t.den × List (Nat × Option Blk)) × List Loc} (h : (appended t y).run st lg = some r) (hm : Mem X w S ρ H st.blk)
  (htx : seqT P tx = true) {yv : Value} (hy : RepTV w S ρ y yv) :
  ToSettle st r.1.2 ∧ ∀ {S' : Nat → Prop}, (∀ b, S b → S' b) → Settled w S' ρ r.1.2 → ∃ news, Src P t.size tx yv r.1.1.length news w ∧ Rows w S' t news r.1.1 := by
 have hk : (∃ e', P.underlying tx = some (.slice e')) ∨ P.underlying tx = some .string := by
  unfold seqT at htx
  split at htx
  ·rename_i e' h1; exact .inl ⟨e', h1⟩
  ·rename_i h1; exact .inr h1
  ·simp at htx
 unfold appended at h
 split at h
 ·rename_i z
  have := run_pure' h; subst this
  refine ⟨ToSettle.nil, fun hS _ => ⟨byteCells z, ?_, ?_⟩⟩
  ·have hv := rep_s hy
   subst hv
   refine ⟨hk, fun _ => by simp [Builtin.lenOf], ?_, ?_, ?_, ?_⟩
   ·simpa [Ty.size] using firstCells_string z w
   ·simpa [Ty.size] using firstCells_string z w.drew
   ·simp [Ty.size, byteCells]
   ·intro u hu
    obtain ⟨_, _, rfl⟩ := List.mem_map.1 hu
    rfl
  ·refine ⟨by simp [Ty.size, byteCells], fun i hi => ?_⟩
   simp at hi
   simp [Ty.size, byteCells, Rd]
   rw [List.drop_eq_getElem_cons (by simpa using hi)]
   simp
 ·obtain ⟨h1, h2⟩ := rowsA_spec h hm
  refine ⟨h1, fun hS hset => ?_⟩
  obtain ⟨base, cap, news, rfl, hcap, hr, hn, hp⟩ := rd_rows (h2 hS hset hy)
  refine ⟨news, ?_, hr⟩
  have hlen : news.length = r.1.1.length * t.size := hr.1
  refine ⟨hk, fun _ => rfl, ?_, ?_, hlen, hr.one⟩
  ·cases base with
   | none =>
    obtain ⟨e1, _⟩ := hn rfl
    have : news = [] := by rw [e1] at hlen; simpa using hlen
    rw [this]
    simp [Builtin.firstCells]
   | some p =>
    have := run_loadCells_list (P := P) w p news (hp p rfl).2
    rw [hlen] at this
    simpa [Builtin.firstCells] using this
  ·cases base with
   | none =>
    obtain ⟨e1, _⟩ := hn rfl
    have : news = [] := by rw [e1] at hlen; simpa using hlen
    rw [this]
    simp [Builtin.firstCells]
   | some p =>
    have := run_loadCells_list (P := P) w.drew p news (fun j u hj => by simpa using (hp p rfl).2 j u hj)
    rw [hlen] at this
    simpa [Builtin.firstCells] using this

theorem append_room {t tx ty e : TypeId} {i : TypeInfo} (ht : P.underlying t = some (.slice e)) (hi : P.info? e = some i) {b sLen sCap : Nat} {v : Value} {n : Nat} {news : List Value} (hs : Src P i.size tx v n news w)
  (hroom : sLen + n ≤ sCap) {vs : Array Value} {el : TypeId} (hb : w.heap[b]? = some (.cells vs el (0, 0))) (hsz : sCap * i.size ≤ vs.size) :
  (Builtin.append_ #[t, tx] ty #[.slice (some ⟨b, 0, none⟩) sLen sCap, v]).run P w = .ok (.slice (some ⟨b, 0, none⟩) (sLen + n) sCap)
   (w.setRow b (vs.toList.take (sLen * i.size) ++ news ++ vs.toList.drop (sLen * i.size + news.length)).toArray) := by
 have hle : (sLen + n) * i.size ≤ sCap * i.size := Nat.mul_le_mul_right _ hroom
 rw [Nat.add_mul] at hle
 have hst := run_storeCells_at P b (sLen * i.size) el news 0 vs w hb (by rw [hs.newsLen]; omega) hs.one
 simp only [Nat.add_zero] at hst
 rcases hs.kind with ⟨e', hk⟩ | hk <;> simp [Builtin.append_, run_underlying ht, run_underlying hk, Go.sizeOf, typeInfo, hi, hs.len, hroom, hs.cells, addr_add, hst]

theorem append_nothing {t tx ty e : TypeId} {i : TypeInfo} (ht : P.underlying t = some (.slice e)) (hi : P.info? e = some i) {base : Option Addr} {sLen sCap : Nat} {v : Value} {news : List Value} (hs : Src P i.size tx v 0 news w)
  (hc : sLen ≤ sCap) : (Builtin.append_ #[t, tx] ty #[.slice base sLen sCap, v]).run P w = .ok (.slice base sLen sCap) w := by
 have hn : news = [] := by have := hs.newsLen; simpa using this
 subst hn
 have hst : ∀ q : Addr, (storeCells q []).run P w = .ok () w := fun q => by simp [storeCells]
 cases base <;> rcases hs.kind with ⟨e', hk⟩ | hk <;> simp [Builtin.append_, run_underlying ht, run_underlying hk, Go.sizeOf, typeInfo, hi, hs.len, hs.cells, hc, hst]

theorem zeroCells_size (z : Array Value) (n : Nat) : (Builtin.zeroCells z n).size = n * z.size := by simp [Builtin.zeroCells]

theorem appendee_spec {t : Ty} {s : TV} {sv : Value} {r : (List t.den × List (Nat × Option Blk)) × List Loc} (h : (appendee t s).run st lg = some r) (hs : RepTV w S ρ s sv) :
  (r.1.2 = [] ∧ r.1.1 = [] ∧ sv = .slice none 0 0) ∨ (∃ n excl, r.1.2 = [(n, none)] ∧ st.blk n = some (some (.own t excl r.1.1)) ∧ ρ n = some sv) := by
 unfold appendee at h
 split at h
 ·have := run_pure' h; subst this
  obtain ⟨rfl, _⟩ := hs
  exact .inl ⟨rfl, rfl, rfl⟩
 ·rename_i n
  obtain ⟨B, lg1, h1, h⟩ := rbs h
  have hb := run_rB h1
  simp only at h hb
  split at h
  ·rename_i u excl xs
   split at h
   ·rename_i e; subst e
    have := run_pure h; subst this
    exact .inr ⟨n, excl, rfl, hb, hs.1⟩
   ·exact (rfl0 h).elim
  ·exact (rfl0 h).elim
 ·exact (rfl0 h).elim

theorem appendA_does {ty tx rt : TypeId} {s y : TV} {sv yv : Value} (h : (appendA P fresh ty tx s y).run st lg = some (.out x, lg')) (hR : Rep X w S ρ H N st a) (hs : RepTV w S ρ s sv) (hy : RepTV w S ρ y yv)
  {q : Sem Next} (hq : ∀ v w', (Builtin.append_ #[ty, tx] rt #[sv, yv]).run P w = .ok v w' → q.run P w = .ok (.value v) w') : Does P X N st a w S ρ q x := by
 unfold appendA at h
 split at h
 ·rename_i e hu
  split at h
  ·rename_i t htt
   split at h
   ·rename_i inf hel
    obtain ⟨⟨ys, wr⟩, lg1, h1, h⟩ := rbs h
    obtain ⟨⟨xs, gone⟩, lg2, h2, h⟩ := rbs h
    obtain ⟨_, lg3, h3, h⟩ := rbs h
    have hg := run_guard h3
    simp only [decide_eq_true_eq, maxBytes] at hg
    have h := run_rdB h
    split at h
    ·rename_i hfresh
     split at h
     ·rename_i hc
      simp only [Bool.and_eq_true] at hc
      obtain ⟨⟨hgrow, htx⟩, hap⟩ := hc
      have := run_pure' h; simp at this; obtain ⟨rfl, _⟩ := this
      obtain ⟨e', hue, hie, hsz⟩ := elemOk_some hel
      rw [hu] at hue; simp at hue; subst hue
      unfold growOk at hgrow
      simp only [Bool.and_eq_true, decide_eq_true_eq] at hgrow
      obtain ⟨hb1, hz⟩ := hgrow
      obtain ⟨z, hz', hz⟩ : ∃ z, inf.zero = some z ∧ z.cells.size = inf.size := by
       cases hzz : inf.zero with
       | none => simp [hzz] at hz
       | some z => exact ⟨z, rfl, by simpa [hzz] using hz⟩
      obtain ⟨hts, hsrc⟩ := appended_src (P := P) (e := e) h1 hR.mem htx hy
      simp only at hts hsrc hg hap
      obtain ⟨S1, H1, hm1, hmore1, hset1⟩ := settle_all wr hR.mem hts.all
      obtain ⟨news, hS, hrows⟩ := hsrc hmore1.s hset1
      rw [← hsz] at hS
      have hg : (xs.length + ys.length) * inf.bytes ≤ 35184372088832 := of_decide_eq_true hg
      have hneed : xs.length + ys.length ≤ 35184372088832 := by
       have := Nat.le_mul_of_pos_right (xs.length + ys.length) (show 0 < inf.bytes by omega)
       omega
      have hfit : ∀ c, c < xs.length + ys.length → Builtin.nextslicecap (xs.length + ys.length) c * inf.bytes ≤ 281474976710656 := fun c hc =>
       growslice_fits hc (Nat.le_trans hg (by decide))
      -- a new row
      have grow : ∀ (base : Option Addr) (sCap : Nat) (olds : List Value) (S2 : Nat → Prop) (H2 : Nat → Option Nat) (blk2 : Nat → Option (Option Blk)), sv = .slice base xs.length sCap → sCap < xs.length + ys.length →
        (Builtin.firstCells inf.size xs.length (.slice base xs.length sCap)).run P w.drew = .ok olds.toArray w.drew → Rows w S2 t olds xs → Mem X w S2 ρ H2 blk2 → (∀ b, S1 b → S2 b) → blk2 fresh = none →
        ∃ v w', q.run P w = .ok (.value v) w' ∧ Mem X w' S2 (upd ρ fresh (some v)) (upd H2 fresh (some w.heap.size)) (upd blk2 fresh (some (some (.own t false (xs ++ ys))))) ∧ More w w' S2 S2 ρ (upd ρ fresh (some v)) ∧ (∃ base len cap, v = .slice base len cap) := by
       intro base sCap olds S2 H2 blk2 hsv hlt hold hro hm2 hS12 hf2
       have hrun := run_append_grow_src (P := P) w ty tx rt e inf z hu hie hz' base xs.length sCap olds hold yv ys.length news hS hlt (by omega) (hfit _ hlt)
       rw [← hsv] at hrun
       have hcap : xs.length + ys.length ≤ grownCap w (xs.length + ys.length) sCap e := by simp [grownCap, Question.cut]
       generalize hgc : grownCap w (xs.length + ys.length) sCap e = gc at hrun hcap
       generalize harr : ((olds ++ news).toArray ++ Builtin.zeroCells z.cells (gc - (xs.length + ys.length))) = arr at hrun
       have hon : (olds ++ news).length = (xs.length + ys.length) * t.size := by rw [List.length_append, hro.1, hrows.1, Nat.add_mul]
       have hasz : arr.size = gc * t.size := by
        rw [← harr, Array.size_append, zeroCells_size, hz, hsz]
        simp only [List.size_toArray]
        rw [hon, ← Nat.add_mul]; congr 1; omega
       have htake : arr.toList.take ((xs ++ ys).length * t.size) = olds ++ news := by
        rw [← harr]
        simp only [Array.toList_append, List.length_append]
        rw [List.take_append_of_le_length (by simpa using Nat.le_of_eq hon.symm)]
        exact List.take_of_length_le (Nat.le_of_eq hon)
       have hlt' : ∀ k, k < w.heap.size → (w.drew.alloc (.cells arr e)).heap[k]? = w.heap[k]? := fun k hk => by
        show (w.heap.push _)[k]? = _
        rw [Array.getElem?_push, if_neg (by omega)]
       have hnew : (w.drew.alloc (.cells arr e)).heap[w.heap.size]? = some (.cells arr e (0, 0)) := by
        show (w.heap.push _)[w.heap.size]? = _
        simp
       have hrow : RowOwn (w.drew.alloc (.cells arr e)) S2 t (.slice (some ⟨w.heap.size, 0, none⟩) (xs ++ ys).length gc) (xs ++ ys) w.heap.size := by
        refine rows_rowOwn (by simpa using hcap) hnew hasz ?_
        rw [htake]
        exact (hro.append (hrows.mono hS12 (fun _ _ => rfl))).mono (fun _ x => x) (fun b hb => hlt' b (hm2.old b hb))
       obtain ⟨hmem, hmore⟩ := hm2.adopt hf2 (home := some w.heap.size) (w' := w.drew.alloc (.cells arr e))
        (fun b hb => by
         simp at hb; subst hb
         exact ⟨.inr hm2.size, fun hs => by have := hm2.old _ hs; omega, fun m C hC hh => by have := (hm2.rep m C hC).home_lt hh; omega⟩)
        (by show w.heap.size ≤ (w.heap.push _).size; simp) (fun k hk _ => hlt' k hk) rfl rfl rfl
        (v := .slice (some ⟨w.heap.size, 0, none⟩) (xs ++ ys).length gc) (B := .own t false (xs ++ ys))
        ⟨_, by rw [upd_same], .inl ⟨_, rfl, hrow⟩⟩
       exact ⟨_, _, hq _ _ (by rw [hrun, List.length_append]), hmem, hmore, _, _, _, rfl⟩
      -- nothing, onto a row without room
      have nothing : ∀ (base : Option Addr) (sCap : Nat) (S2 : Nat → Prop) (H2 : Nat → Option Nat) (blk2 : Nat → Option (Option Blk)), sv = .slice base xs.length sCap → ys = [] → xs.length ≤ sCap →
        ∀ (home : Option Nat), (∀ b, home = some b → X.mine b ∧ ¬ S2 b ∧ ∀ m C, blk2 m = some (some C) → H2 m ≠ some b) → ((∃ b, home = some b ∧ RowOwn w S2 t sv xs b) ∨ (home = none ∧ RowFull w S2 t sv xs)) →
        Mem X w S2 ρ H2 blk2 → blk2 fresh = none →
        ∃ v w', q.run P w = .ok (.value v) w' ∧ Mem X w' S2 (upd ρ fresh (some v)) (upd H2 fresh home) (upd blk2 fresh (some (some (.own t false (xs ++ ys))))) ∧ More w w' S2 S2 ρ (upd ρ fresh (some v)) ∧ (∃ base len cap, v = .slice base len cap) := by
       intro base sCap S2 H2 blk2 hsv hys hle home hhome hrow hm2 hf2
       subst hys
       have hrun := append_nothing (P := P) (w := w) (ty := rt) hu hie (base := base) (sLen := xs.length) (sCap := sCap) hS hle
       rw [← hsv] at hrun
       obtain ⟨hmem, hmore⟩ := hm2.adopt hf2 (home := home) (w' := w) hhome (Nat.le_refl _) (fun k hk _ => rfl) rfl rfl rfl (v := sv) (B := .own t false (xs ++ []))
        ⟨sv, by rw [upd_same], by
         rw [List.append_nil]
         rcases hrow with h' | ⟨h', h''⟩
         ·exact .inl h'
         ·exact .inr ⟨rfl, h', h''⟩⟩
       exact ⟨_, _, hq _ _ hrun, hmem, hmore, _, _, _, hsv⟩
      have finish : ∀ {S2 H2 v w' blk2} {home : Option Nat}, (∀ b, S1 b → S2 b) → blk2 = ((st.sets wr).sets gone).blk → q.run P w = .ok (.value v) w' → Mem X w' S2 (upd ρ fresh (some v)) (upd H2 fresh home) (upd blk2 fresh (some (some (.own t false (xs ++ ys))))) →
        More w w' S2 S2 ρ (upd ρ fresh (some v)) → (∃ base len cap, v = .slice base len cap) → Does P X N st a w S ρ q { tv := .v (.one (.own fresh)), wr := wr ++ (gone ++ [(fresh, some (.own t false (xs ++ ys)))]) } := by
       intro S2 H2 v w' blk2 home hS12 hblk hrun hmem hmore hsl
       have hM : More w w' S S2 ρ (upd ρ fresh (some v)) := ⟨fun b hb => hS12 b (hmore1.s b hb), fun b hb => hmore.heap b (hS12 b (hmore1.s b hb)), hmore.names⟩
       refine ⟨v, w', S2, upd ρ fresh (some v), upd H2 fresh home, .inl hrun, hR.of_mem (st' := st.sets _) ?_ hM (sets_tmp _ _), ⟨by rw [upd_same], hsl⟩, hM⟩
       rw [sets_append, sets_append]
       show Mem X w' S2 _ _ (upd ((st.sets wr).sets gone).blk fresh (some (some (.own t false (xs ++ ys)))))
       rw [← hblk]; exact hmem
      have hfw : (st.sets wr).blk fresh = none := by
       rw [sets_other]
       ·exact hfresh
       ·intro p hp e
        exact hts.no hp (by rw [e]; exact hfresh)
      rcases appendee_spec h2 hs with ⟨e1, e2, rfl⟩ | ⟨n, excl, e1, hn, hρn⟩
      ·simp only at e1 e2
       subst e1; subst e2
       by_cases hys : ys = []
       ·obtain ⟨v, w', k1, k2, k3, k4⟩ := nothing none 0 S1 H1 _ rfl hys (Nat.le_refl _) none (fun b hb => by simp at hb) (.inr ⟨rfl, rd_nil, none, rfl⟩) hm1 hfw
        exact finish (fun _ x => x) rfl k1 k2 k3 k4
       ·obtain ⟨v, w', k1, k2, k3, k4⟩ := grow none 0 [] S1 H1 _ rfl (by have := List.length_pos_iff.2 hys; simpa using this) (by simp [Builtin.firstCells]) ⟨by simp, fun i hi => by simp at hi⟩ hm1 (fun _ x => x) hfw
        exact finish (fun _ x => x) rfl k1 k2 k3 k4
      ·simp only at e1 hn
       subst e1
       have hnw : n ∉ wr.map (·.1) := apartL_spec hap n (by simp)
       have hn1 : (st.sets wr).blk n = some (some (.own t excl xs)) := by
        rw [sets_other]
        ·exact hn
        ·intro p hp e; exact hnw (List.mem_map.2 ⟨p, hp, e⟩)
       obtain ⟨v', hv', hrow⟩ := hm1.rep n _ hn1
       rw [hρn] at hv'; simp at hv'; subst hv'
       have hnf : n ≠ fresh := by rintro rfl; rw [hfresh] at hn; simp at hn
       have hdrop := hm1.drop hn1
       have hf2 : upd (st.sets wr).blk n (some none) fresh = none := by rw [upd_other _ _ (Ne.symm hnf)]; exact hfw
       have hlive : ∀ b, H1 n = some b → ∀ m C, upd (st.sets wr).blk n (some none) m = some (some C) → H1 m ≠ some b := by
        intro b hb m C hC hh
        by_cases e : m = n
        ·subst e; rw [upd_same] at hC; simp at hC
        ·rw [upd_other _ _ e] at hC
         exact e (hm1.sep m n C _ b hC hn1 hh hb)
       rcases hrow with ⟨b, hb, hrow⟩ | ⟨_, hb, hfull⟩
       ·have hmine := hm1.homes n _ b hn1 hb
        have hapart := hm1.apart n _ b hn1 hb
        obtain ⟨cap, vs, el, rfl, hcap, hheap, hvs, hro⟩ := rowOwn_rows hrow
        by_cases hroom : xs.length + ys.length ≤ cap
        ·have hrun := append_room (P := P) (ty := rt) hu hie (b := b) hS hroom hheap (by rw [hvs, hsz]; exact Nat.le_refl _)
         rw [hsz] at hrun
         have hle : (xs.length + ys.length) * t.size ≤ cap * t.size := Nat.mul_le_mul_right _ hroom
         have hnl : news.length = ys.length * t.size := hrows.1
         generalize harr : (vs.toList.take (xs.length * t.size) ++ news ++ vs.toList.drop (xs.length * t.size + news.length)) = arr at hrun
         have hxl : (vs.toList.take (xs.length * t.size)).length = xs.length * t.size := by rw [Nat.add_mul] at hle; simp; omega
         have hal : arr.length = cap * t.size := by
          rw [Nat.add_mul] at hle
          rw [← harr]; simp; omega
         have htake : arr.take ((xs ++ ys).length * t.size) = vs.toList.take (xs.length * t.size) ++ news := by
          rw [← harr, List.length_append, Nat.add_mul]
          have : (vs.toList.take (xs.length * t.size) ++ news).length = xs.length * t.size + ys.length * t.size := by rw [List.length_append, hxl, hnl]
          rw [List.take_append_of_le_length (by omega)]
          exact List.take_of_length_le (by omega)
         have hoth : ∀ k, k ≠ b → (w.setRow b arr.toArray).heap[k]? = w.heap[k]? := fun k hk => setRow_other w b k _ hk
         have hrow' : RowOwn (w.setRow b arr.toArray) S1 t (.slice (some ⟨b, 0, none⟩) (xs ++ ys).length cap) (xs ++ ys) b := by
          refine rows_rowOwn (by simpa using hroom) (setRow_heap w b vs _ el _ hheap) (by simpa using hal) ?_
          simp only
          rw [htake]
          exact (hro.append hrows).mono (fun _ x => x) (fun k hk => hoth k (fun e => hapart (e ▸ hk)))
         obtain ⟨hmem, hmore⟩ := hdrop.adopt hf2 (home := some b) (w' := w.setRow b arr.toArray)
          (fun b' hb' => by simp at hb'; subst hb'; exact ⟨hmine, hapart, hlive _ hb⟩) (by simp) (fun k hk hne => hoth k (fun e => hne (by rw [e]))) rfl rfl rfl
          (v := .slice (some ⟨b, 0, none⟩) (xs ++ ys).length cap) (B := .own t false (xs ++ ys)) ⟨_, by rw [upd_same], .inl ⟨_, rfl, hrow'⟩⟩
         exact finish (fun _ x => x) rfl (hq _ _ (by rw [hrun, List.length_append])) hmem hmore ⟨_, _, _, rfl⟩
        ·have hpre : (Builtin.firstCells inf.size xs.length (.slice (some ⟨b, 0, none⟩) xs.length cap)).run P w.drew = .ok (vs.toList.take (xs.length * t.size)).toArray w.drew := by
          have hle : xs.length * t.size ≤ cap * t.size := Nat.mul_le_mul_right _ hcap
          have hl : (vs.toList.take (xs.length * t.size)).length = xs.length * t.size := by simp; omega
          have := run_loadCells_list (P := P) w.drew ⟨b, 0, none⟩ (vs.toList.take (xs.length * t.size)) (fun j u hj => by
           rw [addr_add]
           have hc := cell_of_row w.drew b (0 + j) vs el (0, 0) hheap
           rw [hc]
           have hj' : j < xs.length * t.size := by
            rcases Nat.lt_or_ge j (xs.length * t.size) with h | h
            ·exact h
            ·rw [List.getElem?_eq_none (by omega)] at hj; simp at hj
           rw [List.getElem?_take_of_lt hj'] at hj
           simpa using hj)
          rw [hl] at this
          simpa [Builtin.firstCells, hsz] using this
         obtain ⟨v, w', k1, k2, k3, k4⟩ := grow _ cap _ S1 H1 _ rfl (by omega) hpre hro hdrop (fun _ x => x) hf2
         exact finish (fun _ x => x) rfl k1 k2 k3 k4
       ·obtain ⟨hfr, base, rfl⟩ := hfull
        by_cases hys : ys = []
        ·obtain ⟨v, w', k1, k2, k3, k4⟩ := nothing base xs.length S1 H1 _ rfl hys (Nat.le_refl _) none (fun b hb => by simp at hb) (.inr ⟨rfl, hfr, base, rfl⟩) hdrop hf2
         exact finish (fun _ x => x) rfl k1 k2 k3 k4
        ·obtain ⟨base', cap', olds, e3, hc3, hro, hno, hpo⟩ := rd_rows hfr
         simp at e3; obtain ⟨rfl, rfl⟩ := e3
         have hlen : olds.length = xs.length * t.size := hro.1
         have hpre : (Builtin.firstCells inf.size xs.length (.slice base xs.length xs.length)).run P w.drew = .ok olds.toArray w.drew := by
          cases base with
          | none =>
           obtain ⟨e1, _⟩ := hno rfl
           have : olds = [] := by rw [e1] at hlen; simpa using hlen
           rw [this]
           simp [Builtin.firstCells]
          | some p =>
           have := run_loadCells_list (P := P) w.drew p olds (fun j u hj => by simpa using (hpo p rfl).2 j u hj)
           rw [hlen] at this
           simpa [Builtin.firstCells, hsz] using this
         obtain ⟨v, w', k1, k2, k3, k4⟩ := grow base xs.length _ S1 H1 _ rfl (by have := List.length_pos_iff.2 hys; omega) hpre hro hdrop (fun _ x => x) hf2
         exact finish (fun _ x => x) rfl k1 k2 k3 k4
     ·exact (rfl0 h).elim
    ·exact (rfl0 h).elim
   ·exact (rfl0 h).elim
  ·exact (rfl0 h).elim
 ·exact (rfl0 h).elim
end append
end Go.Proofs.YtijjlpgcpdapnaaGreatDoor.Aev

/- AEV: each operation does what the evaluator says (4). -/
namespace Go.Proofs.YtijjlpgcpdapnaaGreatDoor.Aev
set_option linter.unusedVariables false
set_option linter.unusedSimpArgs false
open Go

section
variable {P : Program} {sg : FuncId → Option (Nat × List Nat)} {fresh : Nat} {X : Cx} {w : World} {S : Nat → Prop} {ρ : Nat → Option Value} {H : Nat → Option Nat} {N : Nat} {st : St} {a : Act} {o : Oper} {x : Out} {lg lg' : List Loc}

theorem eqGuard_one {op : BinOp} {t : TypeId} {y z : Operand} {u v : Value} (hu : (∃ k n, u = .int k n) ∨ (∃ s, u = .string s) ∨ (∃ b, u = .bool b)) : (eqGuard op t y z u v).run P w = .ok () w := by
 rcases hu with ⟨k, n, rfl⟩ | ⟨s, rfl⟩ | ⟨b, rfl⟩ <;> unfold eqGuard <;> (by_cases h : op matches .eql | .neq) <;> simp [h]

theorem isAggT_of {t : TypeId} {d : TypeDesc} (hu : P.underlying t = some d) {q : Bool × Nat} (hq : isAggT P t = some q) : q.1 = (match d with | .struct _ => true | .array _ _ => true | _ => false) := by
 unfold isAggT at hq
 rw [hu] at hq
 cases hi : P.info? t with
 | none => rw [hi] at hq; cases d <;> simp at hq
 | some i => rw [hi] at hq; cases d <;> simp at hq <;> subst hq <;> rfl
theorem ba_ext {a b : ByteArray} (h : a.data.toList = b.data.toList) : a = b := by
 cases a with | mk a => cases b with | mk b => congr 1; exact Array.toList_inj.mp h
theorem ba_beq (p q : ByteArray) : (p == q) = (p.toList == q.toList) := by
 have h : (p == q) = (p.data == q.data) := by cases p; cases q; rfl
 rw [h, Bool.eq_iff_iff, beq_iff_eq, beq_iff_eq, ByteArray.toList_eq, ByteArray.toList_eq]
 exact ⟨fun h => by rw [h], Array.toList_inj.mp⟩

theorem forIn_fields {Field : Type} {f : Field → Option Bool × Unit → Sem (ForInStep (Option Bool × Unit))} {w : World} {P : Program} : ∀ {fs : List Field} {g : Field → Option Bool} {r : Bool},
  (∀ x ∈ fs, ∃ b, g x = some b ∧ (f x (none, ())).run P w = .ok (if b then .yield (none, ()) else .done (some false, ())) w) →
  (∀ x ∈ fs, g x = some true) ∧ (forIn fs (none, ()) f).run P w = .ok (none, ()) w ∨ (∃ x ∈ fs, g x = some false) ∧ (forIn fs (none, ()) f).run P w = .ok (some false, ()) w := by
 intro fs g r h
 induction fs with
 | nil => exact .inl ⟨by simp, by simp⟩
 | cons x fs ih =>
  obtain ⟨b, h1, h2⟩ := h x (by simp)
  cases b with
  | true =>
   rcases ih (fun y hy => h y (by simp [hy])) with ⟨k1, k2⟩ | ⟨⟨y, hy, k1⟩, k2⟩
   ·exact .inl ⟨by intro y hy; simp at hy; rcases hy with rfl | hy; exact h1; exact k1 y hy, by simp [List.forIn_cons, h2, k2]⟩
   ·exact .inr ⟨⟨y, by simp [hy], k1⟩, by simp [List.forIn_cons, h2, k2]⟩
  | false => exact .inr ⟨⟨x, by simp, h1⟩, by simp [List.forIn_cons, h2]⟩

theorem forIn_eq {Field : Type} {f : Field → Option Bool × Unit → Sem (ForInStep (Option Bool × Unit))} {w : World} {P : Program} {fs : List Field} (g : Field → Option Bool) {r : Bool} {K : Option Bool × Unit → World → Result Bool}
  (h : ∀ x ∈ fs, ∃ b, g x = some b ∧ (f x (none, ())).run P w = .ok (if b then .yield (none, ()) else .done (some false, ())) w) (hr : r = true ↔ ∀ x ∈ fs, g x = some true)
  (h1 : K (none, ()) w = .ok true w) (h2 : K (some false, ()) w = .ok false w) :
  ((forIn fs (none, ()) f).run P w).andThen K = .ok r w := by
 rcases forIn_fields (r := r) h with ⟨k1, k2⟩ | ⟨⟨y, hy, k1⟩, k2⟩
 ·have hr' : r = true := hr.2 k1
  subst hr'
  rw [k2]; exact h1
 ·have hr' : r = false := by
   cases r with
   | false => rfl
   | true => have := hr.1 rfl y hy; rw [k1] at this; simp at this
  subst hr'
  rw [k2]; exact h2

theorem cutT_run {t : TypeId} {cs l : List AV} {off : Nat} (h : cutT P t cs off = some l) {vs : Array Value} (hc : All2 (RepAV w S ρ) cs vs.toList) :
  ∃ u q, isAggT P t = some q ∧ (part t vs off).run P w = .ok u w ∧ (q.1 = true → ∃ a, u = .agg a ∧ All2 (RepAV w S ρ) l a.toList) ∧ (q.1 = false → All2 (RepAV w S ρ) l [u]) := by
 unfold cutT at h
 split at h
 ·rename_i n hg
  obtain ⟨u, h1, h2⟩ := partA_run (P := P) (t := t) (cs := cs) (off := off) (v := .agg l) (by simp [partA, hg, h]) hc
  exact ⟨u, _, hg, h1, fun _ => h2, fun e => by simp at e⟩
 ·rename_i n hg
  obtain ⟨h3, h4⟩ := cut_some h
  have hl : l.length = 1 := by rw [h4]; simp; omega
  match l, hl with
  | [c], _ =>
   obtain ⟨u, h1, h2⟩ := partA_run (P := P) (t := t) (cs := cs) (off := off) (v := .one c) (by simp [partA, hg, h]) hc
   exact ⟨u, _, hg, h1, fun e => by simp at e, fun _ => ⟨h2, trivial⟩⟩
 ·simp at h

def fieldEq (P : Program) (d : Nat) (xs ys : List AV) (f : Field) : Option Bool :=
 match cutT P f.type xs f.offset, cutT P f.type ys f.offset with
 | some a, some b => eqT P d f.type a b
 | _, _ => none
theorem eqFields_spec {d : Nat} {xs ys : List AV} : ∀ {l : List Field} {r : Bool}, eqFields (eqT P d) P xs ys l = some r →
  (∀ f ∈ l, f.name ≠ "_" ∧ ∃ a b c, cutT P f.type xs f.offset = some a ∧ cutT P f.type ys f.offset = some b ∧ eqT P d f.type a b = some c ∧ fieldEq P d xs ys f = some c) ∧ (r = true ↔ ∀ f ∈ l, fieldEq P d xs ys f = some true)
 | [], r, h => by simp [eqFields] at h; subst h; simp
 | f :: l, r, h => by
  unfold eqFields at h
  split at h
  ·simp at h
  ·rename_i hn
   split at h
   ·rename_i a b ha hb
    split at h
    ·rename_i p q hp hq
     simp at h; subst h
     obtain ⟨h1, h2⟩ := eqFields_spec hq
     have hf : fieldEq P d xs ys f = some p := by simp [fieldEq, ha, hb, hp]
     refine ⟨fun g hg => ?_, ?_⟩
     ·simp at hg
      rcases hg with rfl | hg
      ·exact ⟨hn, a, b, p, ha, hb, hp, hf⟩
      ·exact h1 g hg
     ·simp [hf, h2]
    ·simp at h
   ·simp at h

def elemEq (P : Program) (d : Nat) (e : TypeId) (sz : Nat) (xs ys : List AV) (i : Nat) : Option Bool :=
 match cutT P e xs (i * sz), cutT P e ys (i * sz) with
 | some a, some b => eqT P d e a b
 | _, _ => none
theorem eqElems_spec {d : Nat} {e : TypeId} {sz : Nat} {xs ys : List AV} : ∀ {l : List Nat} {r : Bool}, eqElems (eqT P d e) P e sz xs ys l = some r →
  (∀ i ∈ l, ∃ a b c, cutT P e xs (i * sz) = some a ∧ cutT P e ys (i * sz) = some b ∧ eqT P d e a b = some c ∧ elemEq P d e sz xs ys i = some c) ∧ (r = true ↔ ∀ i ∈ l, elemEq P d e sz xs ys i = some true)
 | [], r, h => by simp [eqElems] at h; subst h; simp
 | f :: l, r, h => by
  unfold eqElems at h
  split at h
  ·rename_i a b ha hb
   split at h
   ·rename_i p q hp hq
    simp at h; subst h
    obtain ⟨h1, h2⟩ := eqElems_spec hq
    have hf : elemEq P d e sz xs ys f = some p := by simp [elemEq, ha, hb, hp]
    refine ⟨fun g hg => ?_, ?_⟩
    ·simp at hg
     rcases hg with rfl | hg
     ·exact ⟨a, b, p, ha, hb, hp, hf⟩
     ·exact h1 g hg
    ·simp [hf, h2]
   ·simp at h
  ·simp at h

theorem equalIn_cells {d : Nat} {t : TypeId} : ∀ {xs ys : List AV} {r : Bool} {us vs : Value}, eqT P d t xs ys = some r →
  ((isAggT P t).map (·.1) = some true → ∃ a b, us = .agg a ∧ vs = .agg b ∧ All2 (RepAV w S ρ) xs a.toList ∧ All2 (RepAV w S ρ) ys b.toList) →
  ((isAggT P t).map (·.1) = some false → All2 (RepAV w S ρ) xs [us] ∧ All2 (RepAV w S ρ) ys [vs]) →
  (∃ q, isAggT P t = some q) → ∀ D, d ≤ D → (Op.equalIn D t us vs).run P w = .ok r w := by
 induction d generalizing t with
 | zero => intro xs ys r us vs h; simp [eqT] at h
 | succ d ih =>
  intro xs ys r us vs h ha hf hq D hD
  obtain ⟨D, rfl⟩ : ∃ m, D = m + 1 := ⟨D - 1, by omega⟩
  obtain ⟨⟨isA, sz⟩, hq⟩ := hq
  unfold eqT at h
  split at h
  ·rename_i hu
   have hfa : isA = false := by
    exact isAggT_of hu hq
   subst hfa
   split at h
   ·rename_i p q
    simp at h; subst h
    obtain ⟨h1, h2⟩ := hf (by rw [hq]; rfl)
    have e1 := rep_b (w := w) (S := S) (ρ := ρ) (v := us) h1.1
    have e2 := rep_b (w := w) (S := S) (ρ := ρ) (v := vs) h2.1
    subst e1; subst e2
    simp [Op.equalIn, ur0 hu]
   ·simp at h
  ·rename_i k hu
   have hfa : isA = false := by
    exact isAggT_of hu hq
   subst hfa
   split at h
   ·rename_i k1 p k2 q
    split at h
    ·rename_i e; subst e
     simp at h; subst h
     obtain ⟨h1, h2⟩ := hf (by rw [hq]; rfl)
     have e1 := rep_i (w := w) (S := S) (ρ := ρ) (v := us) h1.1
     have e2 := rep_i (w := w) (S := S) (ρ := ρ) (v := vs) h2.1
     subst e1; subst e2
     simp [Op.equalIn, ur0 hu]
    ·simp at h
   ·simp at h
  ·rename_i hu
   have hfa : isA = false := by
    exact isAggT_of hu hq
   subst hfa
   split at h
   ·rename_i p q
    simp at h; subst h
    obtain ⟨h1, h2⟩ := hf (by rw [hq]; rfl)
    have e1 := rep_s (w := w) (S := S) (ρ := ρ) (v := us) h1.1
    have e2 := rep_s (w := w) (S := S) (ρ := ρ) (v := vs) h2.1
    subst e1; subst e2
    simp [Op.equalIn, ur0 hu, ba_beq]
   ·simp at h
  ·rename_i fs hu
   split at h
   ·simp at h
   ·rename_i hst
    have hta : isA = true := by
     exact isAggT_of hu hq
    subst hta
    obtain ⟨av, bv, rfl, rfl, h1, h2⟩ := ha (by rw [hq]; rfl)
    obtain ⟨hg, hr⟩ := eqFields_spec h
    simp only [Op.equalIn, Sem.run_bind, ur0 hu, Result.andThen_ok, run_program, hst, Bool.false_eq_true, if_false]
    rw [← Array.forIn_toList]
    refine forIn_eq (fieldEq P d xs ys) ?_ hr rfl rfl
    intro f hf
    obtain ⟨hn, p, q, c, hp, hq', hc, hfe⟩ := hg f hf
    obtain ⟨u1, q1, k1, k2, k3, k4⟩ := cutT_run (w := w) hp h1
    obtain ⟨u2, q2, j1, j2, j3, j4⟩ := cutT_run (w := w) hq' h2
    rw [k1] at j1; simp at j1; subst j1
    have heq := ih hc (us := u1) (vs := u2) (fun e => by
      rw [k1] at e; simp at e
      obtain ⟨a1, e1, e2⟩ := k3 e
      obtain ⟨a2, e3, e4⟩ := j3 e
      exact ⟨a1, a2, e1, e3, e2, e4⟩) (fun e => by
      rw [k1] at e; simp at e
      exact ⟨k4 e, j4 e⟩) ⟨_, k1⟩ D (by omega)
    refine ⟨c, hfe, ?_⟩
    simp only [hn, ne_eq, not_false_eq_true, if_true, Sem.run_bind, k2, j2, heq, Result.andThen_ok]
    cases c <;> simp
  ·rename_i n e hu
   split at h
   ·rename_i inf hi
    have hta : isA = true := by
     exact isAggT_of hu hq
    subst hta
    obtain ⟨av, bv, rfl, rfl, h1, h2⟩ := ha (by rw [hq]; rfl)
    obtain ⟨hg, hr⟩ := eqElems_spec h
    simp only [Op.equalIn, Sem.run_bind, ur0 hu, Result.andThen_ok, sizeOf_run hi]
    rw [Std.Legacy.Range.forIn_eq_forIn_range']
    simp only [Std.Legacy.Range.size, Nat.sub_zero, Nat.add_sub_cancel, Nat.div_one]
    refine forIn_eq (elemEq P d e inf.size xs ys) ?_ hr rfl rfl
    intro f hf
    obtain ⟨p, q, c, hp, hq', hc, hfe⟩ := hg f hf
    obtain ⟨u1, q1, k1, k2, k3, k4⟩ := cutT_run (w := w) hp h1
    obtain ⟨u2, q2, j1, j2, j3, j4⟩ := cutT_run (w := w) hq' h2
    rw [k1] at j1; simp at j1; subst j1
    have heq := ih hc (us := u1) (vs := u2) (fun e => by
      rw [k1] at e; simp at e
      obtain ⟨a1, e1, e2⟩ := k3 e
      obtain ⟨a2, e3, e4⟩ := j3 e
      exact ⟨a1, a2, e1, e3, e2, e4⟩) (fun e => by
      rw [k1] at e; simp at e
      exact ⟨k4 e, j4 e⟩) ⟨_, k1⟩ D (by omega)
    refine ⟨c, hfe, ?_⟩
    simp only [Sem.run_bind, k2, j2, heq, Result.andThen_ok]
    cases c <;> simp
   ·simp at h
  ·simp at h
end
end Go.Proofs.YtijjlpgcpdapnaaGreatDoor.Aev

/- AEV: each operation does what the evaluator says (5). -/
namespace Go.Proofs.YtijjlpgcpdapnaaGreatDoor.Aev
set_option linter.unusedVariables false
set_option linter.unusedSimpArgs false
open Go

section
variable {P : Program} {sg : FuncId → Option (Nat × List Nat)} {fresh : Nat} {X : Cx} {w : World} {S : Nat → Prop} {ρ : Nat → Option Value} {H : Nat → Option Nat} {N : Nat} {st : St} {a : Act} {o : Oper} {x : Out} {lg lg' : List Loc}

theorem rep_d_i {k : IntKind} {n : Int} : RepTV w S ρ (.v (.one (.d (.int k) n))) (.int k n) := by simp [RepTV, RepVV, RepAV, Rd]
theorem rep_d_s {s : ByteArray} : RepTV w S ρ (.v (.one (.d .str s))) (.string s) := by simp [RepTV, RepVV, RepAV, Rd]
theorem rep_d_b {b : Bool} : RepTV w S ρ (.v (.one (.d .bool b))) (.bool b) := by simp [RepTV, RepVV, RepAV, Rd]

theorem ifcEq_run {t : TypeId} {y z : Operand} {p q : AV} {b : Bool} {u v : Value} (h : ifcEq P t y z p q = some b) (hy : RepAV w S ρ p u) (hz : RepAV w S ρ q v) (op : BinOp) :
  (eqGuard op t y z u v).run P w = .ok () w ∧ (Go.binOp .eql t u v).run P w = .ok (.bool b) w ∧ (Go.binOp .neq t u v).run P w = .ok (.bool (!b)) w := by
 unfold ifcEq at h
 split at h
 ·split at h
  ·rename_i ms hu
   split at h
   ·rename_i hc
    simp only [Option.some.injEq] at h; subst h
    obtain ⟨rfl, _⟩ := hy; obtain ⟨rfl, _⟩ := hz
    have h : ∀ d : Nat, (Op.equalIn (d + 1) t .nilIface .nilIface).run P w = .ok true w := fun d => by simp [Op.equalIn, ur0 hu]
    have he : (Op.equal t .nilIface .nilIface).run P w = .ok true w := h 9999
    refine ⟨?_, by simp [Go.binOp, he], by simp [Go.binOp, he]⟩
    unfold eqGuard
    cases y <;> cases z <;> first | exact absurd hc Bool.false_ne_true | (by_cases h : op matches .eql | .neq <;> simp [h])
   ·simp at h
  ·simp at h
 ·split at h
  ·rename_i ms hu
   simp only [Option.some.injEq] at h; subst h
   obtain ⟨rfl, _⟩ := hy; obtain ⟨us, x, rfl, _⟩ := hz
   have h : ∀ d i x, (Op.equalIn (d + 1) t .nilIface (.iface i x)).run P w = .ok false w := fun d i x => by simp [Op.equalIn, ur0 hu]
   have he : ∀ i x, (Op.equal t .nilIface (.iface i x)).run P w = .ok false w := h 9999
   refine ⟨?_, by simp [Go.binOp, he], by simp [Go.binOp, he]⟩
   unfold eqGuard
   by_cases h : op matches .eql | .neq <;> simp [h]
  ·simp at h
 ·split at h
  ·rename_i ms hu
   simp only [Option.some.injEq] at h; subst h
   obtain ⟨us, x, rfl, _⟩ := hy; obtain ⟨rfl, _⟩ := hz
   have h : ∀ d i x, (Op.equalIn (d + 1) t (.iface i x) .nilIface).run P w = .ok false w := fun d i x => by simp [Op.equalIn, ur0 hu]
   have he : ∀ i x, (Op.equal t (.iface i x) .nilIface).run P w = .ok false w := h 9999
   refine ⟨?_, by simp [Go.binOp, he], by simp [Go.binOp, he]⟩
   unfold eqGuard
   by_cases h : op matches .eql | .neq <;> simp [h]
  ·simp at h
 ·simp at h
theorem does_makeInterface {t : TypeId} {y : Operand} (ho : o.op = .makeInterface t y) (h : (opA P sg fresh o).run st lg = some (.out x, lg')) (hR : Rep X w S ρ H N st a) : Does P X N st a w S ρ (execOp a.eval o) x := by
 simp only [opA, ho] at h
 obtain ⟨yv, lg1, h1, h⟩ := rbs h
 have hy := opd_rep hR h1
 simp only at h hy
 unfold ifcA at h
 split at h
 ·exact (rfl0 h).elim
 ·rename_i d hnd hd
  have hrun : ∀ u, a.eval y = u → (execOp a.eval o).run P w = .ok (.value (.iface t u)) w := by
   intro u hu
   have : (Instr.makeInterface t u).run P w = .ok (.iface t u) w := by
    unfold Instr.makeInterface
    simp only [Sem.run_bind, ur0 hd, Result.andThen]
    cases d <;> first | rfl | exact (hnd _ rfl).elim
   simp [execOp, ho, hu, this]
  split at h
  ·rename_i n u cs hg hu
   split at h
   ·obtain ⟨⟨d0, wr, rest⟩, lg2, h2, h⟩ := rbs h
    obtain ⟨hts, l1, e1, n1, hrd⟩ := asm_spec _ h2 hR.mem
    simp only at h hts e1 hrd
    split at h
    ·have := run_pure' h; simp at this; obtain ⟨rfl, _⟩ := this
     obtain ⟨us, hus, hxs⟩ := hy
     have e1 : l1 = cs := by simpa using e1.symm
     subst e1
     obtain ⟨S', H', hm, hmore, hset⟩ := settle_all wr hR.mem hts.all
     have hmore' : More w w S S' ρ ρ := hmore
     refine ⟨_, w, S', ρ, H', .inl (hrun _ hus), hR.of_mem (st' := st.sets wr) hm hmore' (sets_tmp _ _), ⟨us.toList, _, rfl, hrd hmore'.s hset hxs, by simp⟩, hmore'⟩
    ·exact (rfl0 h).elim
   ·exact (rfl0 h).elim
  ·rename_i n u c hg hu
   obtain ⟨⟨d0, wr⟩, lg2, h2, h⟩ := rbs h
   obtain ⟨hts, hrd⟩ := toD_spec h2 hR.mem
   simp only at h hts hrd
   have := run_pure' h; simp at this; obtain ⟨rfl, _⟩ := this
   obtain ⟨S', H', hm, hmore, hset⟩ := settle_all wr hR.mem hts.all
   have hmore' : More w w S S' ρ ρ := hmore
   refine ⟨_, w, S', ρ, H', .inl (hrun _ rfl), hR.of_mem (st' := st.sets wr) hm hmore' (sets_tmp _ _), ⟨_, _, rfl, hrd hmore'.s hset hy, rfl⟩, hmore'⟩
  ·exact (rfl0 h).elim
 ·exact (rfl0 h).elim
theorem does_binOp {op : BinOp} {t t' : TypeId} {y z : Operand} (ho : o.op = .binOp op t y z t') (h : (opA P sg fresh o).run st lg = some (.out x, lg')) (hR : Rep X w S ρ H N st a) : Does P X N st a w S ρ (execOp a.eval o) x := by
 simp only [opA, ho] at h
 obtain ⟨yv, lg1, h1, h⟩ := rbs h
 obtain ⟨zv, lg2, h2, h⟩ := rbs h
 have hy := opd_rep hR h1
 have hz := opd_rep hR h2
 simp only at h hy hz
 split at h
 ·rename_i k p k' q _e
  have hy := rep_i hy
  have hz := rep_i hz
  have hg : (eqGuard op t y z (.int k p) (.int k' q)).run P w = .ok () w := eqGuard_one (.inl ⟨k, p, rfl⟩)
  have fin : ∀ v tv, (Go.binOp op t (.int k p) (.int k' q)).run P w = .ok v w → RepTV w S ρ tv v → Does P X N st a w S ρ (execOp a.eval o) { tv := tv } := fun v tv hv hr =>
   Does.value hR (by simp [execOp, ho, hy, hz, hg, hv]) hr
  split at h
  ·obtain ⟨_, lg3, h3, h⟩ := rbs h
   have hne : q ≠ 0 := by simpa using run_guard h3
   split at h
   ·rename_i e; subst e
    obtain rfl := outA_eq h
    exact fin _ _ (by simp [Go.binOp, Op.intDiv, hne]) rep_d_i
   ·exact (rfl0 h).elim
  ·obtain ⟨_, lg3, h3, h⟩ := rbs h
   have hne : q ≠ 0 := by simpa using run_guard h3
   split at h
   ·rename_i e; subst e
    obtain rfl := outA_eq h
    exact fin _ _ (by simp [Go.binOp, Op.intDiv, hne]) rep_d_i
   ·exact (rfl0 h).elim
  ·obtain ⟨_, lg3, h3, h⟩ := rbs h
   have hne : 0 ≤ q := by simpa using run_guard h3
   obtain rfl := outA_eq h
   have hlt : ¬ (q : Int) < 0 := Int.not_lt.mpr hne
   exact fin _ _ (by simp only [Go.binOp, Op.shift]; rw [if_neg hlt]; rfl) rep_d_i
  ·obtain ⟨_, lg3, h3, h⟩ := rbs h
   have hne : 0 ≤ q := by simpa using run_guard h3
   obtain rfl := outA_eq h
   have hlt : ¬ (q : Int) < 0 := Int.not_lt.mpr hne
   exact fin _ _ (by simp only [Go.binOp, Op.shift]; rw [if_neg hlt]; rfl) rep_d_i
  ·obtain ⟨c, lg3, h3, h⟩ := rbs h
   obtain ⟨v, hs, hv⟩ := semV_inv h3
   obtain rfl := outA_eq h
   exact fin v _ (by rw [hs]; rfl) (ofValue_rep hv)
 ·rename_i p q _e
  have hy := rep_s hy
  have hz := rep_s hz
  have hg : (eqGuard op t y z (.string p) (.string q)).run P w = .ok () w := eqGuard_one (.inr (.inl ⟨p, rfl⟩))
  have fin : ∀ v tv, (Op.stringOp op p q).run P w = .ok v w → RepTV w S ρ tv v → Does P X N st a w S ρ (execOp a.eval o) { tv := tv } := fun v tv hv hr =>
   Does.value hR (by
    have hb : (Go.binOp op t (.string p) (.string q)) = Op.stringOp op p q := by cases op <;> rfl
    simp [execOp, ho, hy, hz, hg, hb, hv]) hr
  split at h
  ·obtain ⟨_, lg3, h3, h⟩ := rbs h
   have hne : p.size ≤ 4611686018427387903 ∧ q.size ≤ 4611686018427387903 := by simpa using run_guard h3
   obtain rfl := outA_eq h
   exact fin (.string (p ++ q)) _ (by
    have : ¬ ((p.size + q.size : Nat) : Int) > IntKind.i64.max := by
     have : IntKind.i64.max = 9223372036854775807 := by decide
     omega
    simp only [Op.stringOp]
    rw [if_neg this]; rfl) rep_d_s
  ·obtain rfl := outA_eq h
   exact fin _ _ (by simp [Op.stringOp]) rep_d_b
  ·obtain rfl := outA_eq h
   exact fin _ _ (by simp [Op.stringOp]) rep_d_b
  ·obtain ⟨c, lg3, h3, h⟩ := rbs h
   obtain ⟨v, hs, hv⟩ := semV_inv h3
   obtain rfl := outA_eq h
   exact fin v _ (by rw [hs]; rfl) (ofValue_rep hv)
 ·rename_i p q _e
  have hy := rep_b hy
  have hz := rep_b hz
  have hg : (eqGuard op t y z (.bool p) (.bool q)).run P w = .ok () w := eqGuard_one (.inr (.inr ⟨p, rfl⟩))
  split at h
  ·rename_i hu
   have he : (Op.equal t (.bool p) (.bool q)).run P w = .ok (p == q) w := by
    have key : ∀ D, (Op.equalIn (D + 1) t (.bool p) (.bool q)).run P w = .ok (p == q) w := fun D => by simp [Op.equalIn, ur0 hu]
    exact key 9999
   split at h
   ·obtain rfl := outA_eq h
    exact Does.value hR (by simp [execOp, ho, hy, hz, hg, Go.binOp, he]) rep_d_b
   ·obtain rfl := outA_eq h
    exact Does.value hR (by simp [execOp, ho, hy, hz, hg, Go.binOp, he]) rep_d_b
   ·exact (rfl0 h).elim
  ·exact (rfl0 h).elim
 ·rename_i p q _e
  obtain ⟨c, lg3, h3, h⟩ := rbs h
  obtain ⟨v, hs, hv⟩ := semV_inv h3
  obtain rfl := outA_eq h
  have hy : a.eval y = .float .f64 p := by have hy : [a.eval y] = [Value.float .f64 p] := hy; simpa using hy
  have hz : a.eval z = .float .f64 q := by have hz : [a.eval z] = [Value.float .f64 q] := hz; simpa using hz
  have hg : (eqGuard op t y z (.float .f64 p) (.float .f64 q)).run P w = .ok () w := by
   unfold eqGuard
   by_cases h : op matches .eql | .neq <;> simp [h]
  have hop : (Go.binOp op t (.float .f64 p) (.float .f64 q)).run P w = .ok v w := by
   cases op <;> first | (simp only [Op.floatCmp] at hs; cases hs; done) | (simp only [Go.binOp]; simp [hs])
  exact Does.value hR (by simp [execOp, ho, hy, hz, hg, hop]) (ofValue_rep hv)
 ·rename_i xs ys _e
  split at h
  ·exact (rfl0 h).elim
  ·rename_i hgt
   split at h
   ·rename_i n b hq hb
    obtain ⟨us, hus, hxs⟩ := hy
    obtain ⟨vs, hvs, hys⟩ := hz
    have hg : (eqGuard op t y z (.agg us) (.agg vs)).run P w = .ok () w := by
     unfold eqGuard
     by_cases h : op matches .eql | .neq <;> simp [h, hgt]
    have he : (Op.equal t (.agg us) (.agg vs)).run P w = .ok b w :=
     equalIn_cells (S := S) (ρ := ρ) hb (fun _ => ⟨us, vs, rfl, rfl, hxs, hys⟩) (fun e => by rw [hq] at e; simp at e) ⟨_, hq⟩ Op.maxDepth (by decide)
    split at h
    ·obtain rfl := outA_eq h
     exact Does.value hR (by simp [execOp, ho, hus, hvs, hg, Go.binOp, he]) rep_d_b
    ·obtain rfl := outA_eq h
     exact Does.value hR (by simp [execOp, ho, hus, hvs, hg, Go.binOp, he]) rep_d_b
    ·exact (rfl0 h).elim
   ·exact (rfl0 h).elim
 ·rename_i e xs _e
  split at h
  ·rename_i el hu
   obtain ⟨_, lg3, h3, h⟩ := rbs h
   have hne : 1 ≤ xs.length := by simpa using run_guard h3
   obtain ⟨base, len, cap, hb, _, _, _, _, hx⟩ := hy
   obtain ⟨a0, rfl, _⟩ := hx (fun q => by rw [q] at hne; simp at hne)
   have hy : a.eval y = .slice (some a0) len cap := by simpa using hb
   have hz : a.eval z = .slice none 0 0 := hz.1
   have he : (Op.equal t (.slice (some a0) len cap) (.slice none 0 0)).run P w = .ok false w := by
    have key : ∀ D, (Op.equalIn (D + 1) t (.slice (some a0) len cap) (.slice none 0 0)).run P w = .ok false w := fun D => by simp [Op.equalIn, ur0 hu]
    exact key 9999
   have hg : (eqGuard op t y z (.slice (some a0) len cap) (.slice none 0 0)).run P w = .ok () w := by
    unfold eqGuard
    by_cases h : op matches .eql | .neq <;> simp [h]
   split at h
   ·obtain rfl := outA_eq h
    exact Does.value hR (by simp [execOp, ho, hy, hz, hg, Go.binOp, he]) rep_d_b
   ·obtain rfl := outA_eq h
    exact Does.value hR (by simp [execOp, ho, hy, hz, hg, Go.binOp, he]) rep_d_b
   ·exact (rfl0 h).elim
  ·exact (rfl0 h).elim
 ·rename_i p q _ _ _ _ _ _
  split at h
  ·rename_i b hb
   obtain ⟨hg, he1, he2⟩ := ifcEq_run (w := w) hb hy hz op
   split at h
   ·obtain rfl := outA_eq h
    exact Does.value hR (by simp [execOp, ho, hg, he1]) rep_d_b
   ·obtain rfl := outA_eq h
    exact Does.value hR (by simp [execOp, ho, hg, he2]) rep_d_b
   ·exact (rfl0 h).elim
  ·exact (rfl0 h).elim
 ·exact (rfl0 h).elim


theorem Mem.allocS {blk : Nat → Option (Option Blk)} {w' : World} (h : Mem X w S ρ H blk) (hsz : w'.heap.size = w.heap.size + 1) (hk : ∀ k, k < w.heap.size → w'.heap[k]? = w.heap[k]?) (ho : w'.os = w.os) (ht : w'.tape = w.tape) (hp : w'.output = w.output) :
  Mem X w' (fun b => S b ∨ b = w.heap.size) ρ H blk ∧ More w w' S (fun b => S b ∨ b = w.heap.size) ρ ρ := by
 have hS : ∀ b, S b → w'.heap[b]? = w.heap[b]? := fun b hb => hk b (h.old b hb)
 refine ⟨?_, fun _ x => .inl x, hS, fun _ _ x => x⟩
 refine { rep := fun n B hB => (h.rep n B hB).mono (fun _ x => .inl x) hS (fun _ _ x => x) (fun b hb => hk b ((h.rep n B hB).home_lt hb)), sep := h.sep, apart := ?_, homes := h.homes, old := ?_, never := h.never, s0 := fun b hb => .inl (h.s0 b hb), smine := ?_, names := h.names, os := ho.trans h.os, tape := ht.trans h.tape, output := hp.trans h.output, size := by have := h.size; omega, same := fun b hb hm => (hk b (Nat.lt_of_lt_of_le hb h.size)).trans (h.same b hb hm), gl := h.gl.mono (fun _ x => .inl x) hS }
 ·intro n B b hB hb hs
  rcases hs with hs | rfl
  ·exact h.apart n B b hB hb hs
  ·have := (h.rep n B hB).home_lt hb; omega
 ·intro b hb
  rcases hb with hb | rfl
  ·have := h.old b hb; omega
  ·omega
 ·intro b hb
  rcases hb with hb | rfl
  ·exact h.smine b hb
  ·exact .inr (.inr h.size)

theorem bytes_fold : ∀ (ns : List Int) (s : ByteArray), ns.foldl (fun r n => r.push (UInt8.ofNat n.toNat)) s = ⟨s.data ++ (ns.map fun n => UInt8.ofNat n.toNat).toArray⟩
 | [], s => by simp
 | n :: ns, s => by
  simp only [List.foldl_cons, bytes_fold ns, List.map_cons]
  congr 1
  apply Array.ext'
  simp [ByteArray.push]

theorem does_convert {s t : TypeId} {y : Operand} (ho : o.op = .convert s t y) (h : (opA P sg fresh o).run st lg = some (.out x, lg')) (hR : Rep X w S ρ H N st a) : Does P X N st a w S ρ (execOp a.eval o) x := by
 simp only [opA, ho] at h
 obtain ⟨yv, lg1, h1, h⟩ := rbs h
 have hy := opd_rep hR h1
 simp only at h hy
 split at h
 ·rename_i k n
  split at h
  ·rename_i u k' hs ht
   obtain rfl := outA_eq h
   have hy := rep_i hy
   exact Does.value hR (by simp [execOp, ho, hy, Go.convert, ur0 hs, ur0 ht, Conv.intToInt]) rep_d_i
  ·rename_i u hs ht
   obtain rfl := outA_eq h
   have hy := rep_i hy
   exact Does.value hR (v := .float .f64 (FloatKind.f64.nearest n)) (by simp [execOp, ho, hy, Go.convert, ur0 hs, ur0 ht, Conv.intToFloat]) (by simp [RepTV, RepVV, RepAV, Rd])
  ·exact (rfl0 h).elim
 ·rename_i b
  have hy : a.eval y = .float .f64 b := by have hy : [a.eval y] = [Value.float .f64 b] := hy; simpa using hy
  split at h
  ·rename_i u k hs ht
   obtain ⟨_, lg2, h2, h⟩ := rbs h
   have hg := run_guard h2
   obtain rfl := outA_eq h
   simp only [Bool.and_eq_true, decide_eq_true_eq] at hg
   obtain ⟨⟨g1, g2⟩, g3⟩ := hg
   cases hn : (FloatKind.f64.decode b).toInt .zero with
   | none => rw [hn] at g1; simp at g1
   | some n =>
    rw [hn] at g2 g3
    simp only [Option.getD_some] at g2 g3
    exact Does.value hR (v := .int k n) (by simp [execOp, ho, hy, Go.convert, ur0 hs, ur0 ht, Conv.floatToInt, hn, g2, g3]) (by simp [rep_d_i])
  ·exact (rfl0 h).elim
 ·rename_i z
  have hy := rep_s hy
  split at h
  ·rename_i u hs ht
   obtain rfl := outA_eq h
   exact Does.value hR (by simp [execOp, ho, hy, Go.convert, ur0 hs, ur0 ht]) rep_d_s
  ·rename_i u e hs ht
   split at h
   ·rename_i he
    obtain rfl := outA_eq h
    have hrun := Lib.run_convert_string_bytes (P := P) w s t e z hs ht he
    obtain ⟨hm, hmore⟩ := hR.mem.allocS (w' := Lib.bytesWorld w e z) (Lib.bytesWorld_size w e z) (fun k hk => Lib.bytesWorld_at_old w e z k hk) rfl rfl rfl
    refine ⟨_, _, _, ρ, H, .inl (by simp [execOp, ho, hy, hrun]; rfl), hR.of_mem hm hmore rfl, ?_, hmore⟩
    refine ⟨_, _, _, rfl, by simp, ?_, fun a ha _ => by simp at ha; rw [← ha], by simp, fun hx => ⟨_, rfl, .inr rfl, fun i hi => ?_⟩⟩
    ·simp [grownCap, Question.cut]
    ·simp at hi
     have hi' : i < z.size := hi
     refine ⟨[.int .u8 (z.data.toList[i]'(by simpa using hi)).toNat], ⟨_, _, _, Lib.bytesWorld_at_new w e z, ?_, ?_⟩, by simp [Rd]⟩
     ·simp [Lib.bytesCells, Ty.size]
      have : z.data.size = z.size := rfl
      omega
     ·simp only [Ty.size, Nat.mul_one, Nat.zero_add]
      have hlen : i < (Lib.bytesCells w e z).toList.length := by
       simp [Lib.bytesCells]
       have : z.data.size = z.size := rfl
       omega
      rw [List.drop_eq_getElem_cons hlen]
      simp [Lib.bytesCells, Array.getElem_append, hi]
   ·exact (rfl0 h).elim
  ·exact (rfl0 h).elim
 ·split at h
  ·rename_i e hs ht
   split at h
   ·rename_i he
    obtain ⟨⟨xs, wr⟩, lg2, h2, h⟩ := rbs h
    have := run_pure' h; simp at this; obtain ⟨rfl, _⟩ := this
    obtain ⟨hts, hrd⟩ := rowsA_spec h2 hR.mem
    simp only at hts hrd
    obtain ⟨S1, H1, hm1, hmore1, hset1⟩ := settle_all _ hR.mem hts.all
    obtain ⟨base, cap, news, hv, hcap, hrows, hn, hp⟩ := rd_rows (hrd hmore1.s hset1 hy)
    have hnews : news = xs.map (Value.int .u8) := by
     have hl := hrows.1
     apply List.ext_getElem
     ·simp [hl, Ty.size]
     ·intro i h1' h2'
      have hi : i < xs.length := by simpa using h2'
      have := hrows.2 i hi
      simp [Ty.size, Rd] at this
      have := congrArg (fun l => l[0]?) this
      simpa [h1'] using this
    have hc : (Conv.bytesToString (.slice base xs.length cap)).run P w = .ok (.string ⟨(xs.map fun (n : Int) => UInt8.ofNat n.toNat).toArray⟩) w := by
     cases base with
     | none =>
      obtain ⟨e1, _⟩ := hn rfl
      subst e1
      simp [Conv.bytesToString]
      rfl
     | some p =>
      have hl := run_loadCells_list (P := P) w p news (hp p rfl).2
      rw [hnews] at hl
      have hb := run_bytesToString (P := P) (w := w) p xs.length cap xs (by simpa using hl)
      rw [hb, bytes_fold]
      simp
    have hcv := run_convert_bytes_string (P := P) w s t e base xs.length cap hs he ht
    exact Does.settled hR hts (by simp [execOp, ho, hv, hcv, hc]) (fun S' hS hset => rep_d_s)
   ·exact (rfl0 h).elim
  ·exact (rfl0 h).elim

theorem lenA_spec {y : TV} {v : Value} {r : Int × List Loc} (h : (lenA y).run st lg = some r) (hR : Rep X w S ρ H N st a) (hy : RepTV w S ρ y v) :
  ∃ base len cap, v = .slice base len cap ∧ r.1 = len := by
 unfold lenA at h
 split at h
 ·have := run_pure' h; subst this
  obtain ⟨base, len, cap, hv, e1, _⟩ := hy
  simp at hv
  exact ⟨base, len, cap, hv, by rw [e1]⟩
 ·have := run_pure' h; subst this
  obtain ⟨rfl, _⟩ := hy
  exact ⟨_, _, _, rfl, rfl⟩
 ·have := run_pure' h; subst this
  obtain ⟨b, _, rfl⟩ := hy
  exact ⟨_, _, _, rfl, rfl⟩
 ·rename_i n
  obtain ⟨B, lg1, h1, h⟩ := rbs h
  have hb := run_rB h1
  simp only at h hb
  obtain ⟨hρ, base, len, cap, rfl⟩ := hy
  split at h
  ·have := run_pure h; subst this
   obtain ⟨v', h2, h3⟩ := hR.mem.rep n _ hb
   rw [hρ] at h2; simp at h2; subst h2
   rcases h3 with ⟨b, _, l, c, vs, e, q, q1, _⟩ | ⟨_, _, _, base', q⟩
   ·simp at q; exact ⟨base, len, cap, rfl, by rw [q.2.1, q1]⟩
   ·simp at q; exact ⟨base, len, cap, rfl, by rw [q.2.1]⟩
  ·have := run_pure h; subst this
   obtain ⟨v', h2, _, h3⟩ := hR.mem.rep n _ hb
   rw [hρ] at h2; simp at h2; subst h2
   obtain ⟨base', l, c, q, q1, _⟩ := h3
   simp at q; exact ⟨base, len, cap, rfl, by rw [q.2.1, q1]⟩
  ·exact (rfl0 h).elim
 ·exact (rfl0 h).elim

theorem asS_inv {x : TV} {r : ByteArray × List Loc} (h : (asS x).run st lg = some r) : x = .v (.one (.d .str r.1)) := by
 unfold asS at h
 split at h
 ·have := run_pure' h; subst this; rfl
 ·exact (rfl0 h).elim

theorem toList1 {α : Type} {xs : Array α} {a : α} (h : xs.toList = [a]) : xs = #[a] := Array.ext' (by simpa using h)
theorem toList2 {α : Type} {xs : Array α} {a b : α} (h : xs.toList = [a, b]) : xs = #[a, b] := Array.ext' (by simpa using h)

theorem args_rep (hR : Rep X w S ρ H N st a) {as : Array Operand} {tvs : List TV} (h : (as.toList.mapM opd).run st lg = some (tvs, lg')) : All2 (RepTV w S ρ) tvs (as.map a.eval).toList := by
 rw [Array.toList_map]
 have hc := run_mapM h
 simp only at hc
 clear h
 generalize as.toList = l at hc
 induction l generalizing tvs with
 | nil => rw [hc.nil_left]; trivial
 | cons y l ih =>
  obtain ⟨p, ps, rfl, ⟨lg2, lg3, h2⟩, hc⟩ := hc.cons_left
  exact ⟨opd_rep hR h2, ih hc⟩

theorem Rows.take {t : Ty} {vs : List Value} {xs : List t.den} (h : Rows w S t vs xs) (n : Nat) : Rows w S t (vs.take (n * t.size)) (xs.take n) := by
 obtain ⟨h1, h2⟩ := h
 refine ⟨?_, fun i hi => ?_⟩
 ·rw [List.length_take, List.length_take, h1]
  rcases Nat.le_total n xs.length with c | c
  ·rw [Nat.min_eq_left c, Nat.min_eq_left (Nat.mul_le_mul_right _ c)]
  ·rw [Nat.min_eq_right c, Nat.min_eq_right (Nat.mul_le_mul_right _ c)]
 ·have hi' : i < n ∧ i < xs.length := by simpa [Nat.lt_min] using hi
  have h5 : (i + 1) * t.size ≤ n * t.size := Nat.mul_le_mul_right _ hi'.1
  rw [Nat.add_mul] at h5
  have := h2 i hi'.2
  rw [List.getElem_take, List.drop_take, List.take_take]
  have e1 : min t.size (n * t.size - i * t.size) = t.size := by omega
  rw [e1]; exact this
theorem Rows.drop {t : Ty} {vs : List Value} {xs : List t.den} (h : Rows w S t vs xs) (n : Nat) : Rows w S t (vs.drop (n * t.size)) (xs.drop n) := by
 obtain ⟨h1, h2⟩ := h
 refine ⟨?_, fun i hi => ?_⟩
 ·rw [List.length_drop, List.length_drop, h1, Nat.sub_mul]
 ·have hi' : n + i < xs.length := by simp at hi; omega
  have := h2 (n + i) hi'
  rw [List.getElem_drop, List.drop_drop, ← Nat.add_mul]
  exact this
theorem copyA_does {ty tx rt : TypeId} {n : Nat} {y : TV} {nv yv : Value} (h : (copyA P ty n y).run st lg = some (.out x, lg')) (hR : Rep X w S ρ H N st a) (hn : RepTV w S ρ (.v (.one (.own n))) nv) (hy : RepTV w S ρ y yv)
  {q : Sem Next} (hq : ∀ v w', (Builtin.copy_ #[ty, tx] rt #[nv, yv]).run P w = .ok v w' → q.run P w = .ok (.value v) w') : Does P X N st a w S ρ q x := by
 unfold copyA at h
 split at h
 ·rename_i e hu
  split at h
  ·rename_i t htt
   split at h
   ·rename_i inf hel
    obtain ⟨⟨ys, wr⟩, lg1, h1, h⟩ := rbs h
    obtain ⟨B, lg2, h2, h⟩ := rbs h
    have hb := run_rB h2
    simp only at h hb
    split at h
    ·rename_i u xs
     split at h
     ·rename_i e'; subst e'
      split at h
      ·rename_i hap
       have := run_pure' h; simp at this; obtain ⟨rfl, _⟩ := this
       obtain ⟨e', hue, hie, hsz⟩ := elemOk_some hel
       rw [hu] at hue; simp at hue; subst hue
       obtain ⟨hts, hrd⟩ := rowsA_spec h1 hR.mem
       simp only at hts hrd
       obtain ⟨S1, H1, hm1, hmore1, hset1⟩ := settle_all wr hR.mem hts.all
       have hnw : n ∉ wr.map (·.1) := apartL_spec hap n (by simp)
       have hn1 : (st.sets wr).blk n = some (some (.own u true xs)) := by
        rw [sets_other]
        ·exact hb
        ·intro p hp e; exact hnw (List.mem_map.2 ⟨p, hp, e⟩)
       have hrdy := hrd hmore1.s hset1 hy
       obtain ⟨base, cap, news, rfl, hcap, hrows, hnone, hsome⟩ := rd_rows hrdy
       obtain ⟨v', k1, k2⟩ := hm1.rep n _ hn1
       obtain ⟨hρ, _⟩ := hn
       rw [hρ] at k1; cases k1
       rcases k2 with ⟨b, hh, hrow⟩ | ⟨hf, _⟩
       ·obtain ⟨dcap, vs, el, rfl, hle, hcell, hvs, hrx⟩ := rowOwn_rows hrow
        have hmin : ∀ i j : Nat, Nat.min i j = min i j := fun _ _ => rfl
        -- what is copied
        have hl1 : news.length = ys.length * u.size := hrows.1
        have hcs : (news.take (Nat.min ys.length xs.length * u.size)).length = Nat.min ys.length xs.length * u.size := by
         rw [List.length_take, hl1, hmin]
         exact Nat.min_eq_left (Nat.mul_le_mul_right _ (Nat.min_le_left _ _))
        have hfc : (Builtin.firstCells u.size (Nat.min ys.length xs.length) (.slice base ys.length cap)).run P w = .ok (news.take (Nat.min ys.length xs.length * u.size)).toArray w := by
         cases base with
         | none =>
          obtain ⟨e1, _⟩ := hnone rfl
          subst e1
          have : news = [] := by simpa using hl1
          subst this
          simp [Builtin.firstCells]
         | some p =>
          have hl := run_loadCells_list (P := P) w p (news.take (Nat.min ys.length xs.length * u.size)) (fun j v hj => (hsome p rfl).2 j v (by
           rcases Nat.lt_or_ge j (Nat.min ys.length xs.length * u.size) with c | c
           ·rwa [List.getElem?_take_of_lt c] at hj
           ·rw [List.getElem?_eq_none (by rw [hcs]; exact c)] at hj; simp at hj))
          rw [hcs] at hl
          simpa [Builtin.firstCells] using hl
        have hmv : Nat.min ys.length xs.length * u.size ≤ dcap * u.size := Nat.mul_le_mul_right _ (by rw [hmin]; omega)
        have hst := run_storeCells_at P b 0 el (news.take (Nat.min ys.length xs.length * u.size)) 0 vs w hcell (by rw [hcs, hvs]; omega) (fun v hv => hrows.one v (List.mem_of_mem_take hv))
        simp only [Nat.zero_add, List.take_zero, List.nil_append, hcs] at hst
        have hrun : (Builtin.copy_ #[ty, tx] rt #[.slice (some ⟨b, 0, none⟩) xs.length dcap, .slice base ys.length cap]).run P w = .ok (goInt (Nat.min ys.length xs.length)) (w.setRow b (news.take (Nat.min ys.length xs.length * u.size) ++ vs.toList.drop (Nat.min ys.length xs.length * u.size)).toArray) := by
         simp [Builtin.copy_, ur0 hu, Builtin.lenOf, sizeOf_run hie, hsz, hfc, hst]
        obtain ⟨w2, hw2⟩ : ∃ w2, w2 = w.setRow b (news.take (Nat.min ys.length xs.length * u.size) ++ vs.toList.drop (Nat.min ys.length xs.length * u.size)).toArray := ⟨_, rfl⟩
        rw [← hw2] at hrun
        have hoth : ∀ k, k ≠ b → w2.heap[k]? = w.heap[k]? := fun k hk => by rw [hw2]; exact setRow_other w b k _ hk
        have hSb : ∀ k, S1 k → k ≠ b := fun k hk e => hm1.apart n _ b hn1 hh (e ▸ hk)
        have hnew : w2.heap[b]? = some (.cells (news.take (Nat.min ys.length xs.length * u.size) ++ vs.toList.drop (Nat.min ys.length xs.length * u.size)).toArray el (0, 0)) := by rw [hw2]; exact setRow_heap w b _ _ el _ hcell
        have hlen : (ys.take xs.length ++ xs.drop ys.length).length = xs.length := by
         rw [List.length_append, List.length_take, List.length_drop]; omega
        have htk : ys.take xs.length = ys.take (Nat.min ys.length xs.length) := by
         rw [hmin]
         rcases Nat.le_total ys.length xs.length with c | c
         ·rw [Nat.min_eq_left c, List.take_of_length_le c, List.take_of_length_le (Nat.le_refl _)]
         ·rw [Nat.min_eq_right c]
        have hdk : xs.drop ys.length = xs.drop (Nat.min ys.length xs.length) := by
         rw [hmin]
         rcases Nat.le_total ys.length xs.length with c | c
         ·rw [Nat.min_eq_left c]
         ·rw [Nat.min_eq_right c, List.drop_eq_nil_of_le c, List.drop_eq_nil_of_le (Nat.le_refl _)]
        have hmem := hm1.write (w' := w2) hn1 hh (by rw [hw2]; simp) hoth (by rw [hw2]; rfl) (by rw [hw2]; rfl) (by rw [hw2]; rfl) (B' := .own u true (ys.take xs.length ++ (xs : List u.den).drop ys.length)) (by
         refine ⟨_, hρ, .inl ⟨b, rfl, ?_⟩⟩
         have := rows_rowOwn (w := w2) (S := S1) (t := u) (xs := ys.take xs.length ++ (xs : List u.den).drop ys.length) (b := b) (cap := dcap) (by rw [hlen]; exact hle) hnew (by
          rw [List.size_toArray, List.length_append, hcs, List.length_drop]; have hvl : vs.toList.length = dcap * u.size := by simpa using hvs
          rw [hvl]; omega) ?_
         ·rw [hlen] at this; exact this
         ·have r1 := (hrows.take (Nat.min ys.length xs.length)).mono (fun _ x => x) (fun k hk => hoth k (hSb k hk))
          have r2 := (hrx.drop (Nat.min ys.length xs.length)).mono (fun _ x => x) (fun k hk => hoth k (hSb k hk))
          have r3 := r1.append r2
          rw [htk, hdk, List.length_append, List.length_take, List.length_drop]
          have e1 : (news.take (Nat.min ys.length xs.length * u.size) ++ vs.toList.drop (Nat.min ys.length xs.length * u.size)).take ((min (Nat.min ys.length xs.length) ys.length + (xs.length - Nat.min ys.length xs.length)) * u.size) = news.take (Nat.min ys.length xs.length * u.size) ++ (vs.toList.take (xs.length * u.size)).drop (Nat.min ys.length xs.length * u.size) := by
           have e0 : min (Nat.min ys.length xs.length) ys.length + (xs.length - Nat.min ys.length xs.length) = xs.length := by rw [hmin]; omega
           have e2 : Nat.min ys.length xs.length * u.size ≤ xs.length * u.size := Nat.mul_le_mul_right _ (by rw [hmin]; omega)
           rw [e0, List.take_append, hcs, List.take_of_length_le (by rw [hcs]; exact e2), List.drop_take]
          simp only
          rw [e1]
          exact r3)
        have hmore : More w w2 S1 S1 ρ ρ := ⟨fun _ x => x, fun k hk => hoth k (hSb k hk), fun _ _ x => x⟩
        have hM := hmore1.trans hmore
        refine ⟨_, w2, S1, ρ, H1, .inl (hq _ _ hrun), hR.of_mem (st' := st.sets _) ?_ hM (sets_tmp _ _), rep_d_i, hM⟩
        rw [sets_append]
        exact hmem
       ·simp at hf
      ·exact (rfl0 h).elim
     ·exact (rfl0 h).elim
    ·exact (rfl0 h).elim
   ·exact (rfl0 h).elim
  ·exact (rfl0 h).elim
 ·exact (rfl0 h).elim

theorem does_callB {c : Call} (ho : o.op = .call c) {b : Builtin} (hb : c.callee = .builtin b) (h : (opA P sg fresh o).run st lg = some (.out x, lg')) (hR : Rep X w S ρ H N st a) : Does P X N st a w S ρ (execOp a.eval o) x := by
 simp only [opA, ho] at h
 obtain ⟨args, lg1, h1, h⟩ := rbs h
 have hargs := args_rep hR h1
 simp only [callA, hb] at h
 split at h
 ·rename_i heq
  cases heq
  split at h
  ·rename_i y t hat
   obtain ⟨v, m, hv, hy, hm⟩ := hargs.cons_left
   have hm := hm.nil_left
   subst hm
   have hv := toList1 hv
   have hat := toList1 hat
   split at h
   ·rename_i hu
    obtain ⟨s, lg2, h2, h⟩ := rbs h
    obtain rfl := outA_eq h
    rw [asS_inv h2] at hy
    have hs := rep_s hy
    subst hs
    exact Does.value hR (v := .int .i64 (s.size : Int)) (by simp [execOp, ho, resolve, hb, invoke, builtin, hv, hat, Builtin.len_, ur0 hu, goInt]) rep_d_i
   ·rename_i e hu
    obtain ⟨n, lg2, h2, h⟩ := rbs h
    obtain rfl := outA_eq h
    obtain ⟨base, len, cap, rfl, hn⟩ := lenA_spec h2 hR hy
    simp only at hn
    exact Does.value hR (v := .int .i64 n) (by simp [execOp, ho, resolve, hb, invoke, builtin, hv, hat, Builtin.len_, ur0 hu, goInt, hn]) rep_d_i
   ·exact (rfl0 h).elim
  ·exact (rfl0 h).elim
 ·rename_i heq
  cases heq
  split at h
  ·rename_i k p k' q
   obtain ⟨cc, lg2, h2, h⟩ := rbs h
   obtain ⟨vv, hs, hvv⟩ := semV_inv h2
   obtain rfl := outA_eq h
   obtain ⟨v, m, hv, hy, hm⟩ := hargs.cons_left
   obtain ⟨v2, m, rfl, hy2, hm⟩ := hm.cons_left
   have hm := hm.nil_left
   subst hm
   have hv := toList2 hv
   have e1 := rep_i hy
   have e2 := rep_i hy2
   subst e1; subst e2
   have hs' : Builtin.min_ c.argTypes o.type #[.int k p, .int k' q] = .pure vv := hs
   exact Does.value hR (v := vv) (by simp [execOp, ho, resolve, hb, invoke, builtin, hv, hs']) (ofValue_rep hvv)
  ·exact (rfl0 h).elim
 ·rename_i heq
  cases heq
  split at h
  ·rename_i k p k' q
   obtain ⟨cc, lg2, h2, h⟩ := rbs h
   obtain ⟨vv, hs, hvv⟩ := semV_inv h2
   obtain rfl := outA_eq h
   obtain ⟨v, m, hv, hy, hm⟩ := hargs.cons_left
   obtain ⟨v2, m, rfl, hy2, hm⟩ := hm.cons_left
   have hm := hm.nil_left
   subst hm
   have hv := toList2 hv
   have e1 := rep_i hy
   have e2 := rep_i hy2
   subst e1; subst e2
   have hs' : Builtin.max_ c.argTypes o.type #[.int k p, .int k' q] = .pure vv := hs
   exact Does.value hR (v := vv) (by simp [execOp, ho, resolve, hb, invoke, builtin, hv, hs']) (ofValue_rep hvv)
  ·exact (rfl0 h).elim
 ·rename_i heq
  cases heq
  split at h
  ·rename_i s y ty tx hat
   obtain ⟨v, m, hv, hs, hm⟩ := hargs.cons_left
   obtain ⟨v2, m, rfl, hy, hm⟩ := hm.cons_left
   have hm := hm.nil_left
   subst hm
   have hv := toList2 hv
   have hat := toList2 hat
   refine appendA_does (rt := o.type) h hR hs hy (fun v' w' hr => ?_)
   simp [execOp, ho, resolve, hb, invoke, builtin, hv, hat, hr]
  ·exact (rfl0 h).elim
 ·rename_i heq
  cases heq
  split at h
  ·rename_i n y ty tx hat
   obtain ⟨v, m, hv, hs, hm⟩ := hargs.cons_left
   obtain ⟨v2, m, rfl, hy, hm⟩ := hm.cons_left
   have hm := hm.nil_left
   subst hm
   have hv := toList2 hv
   have hat := toList2 hat
   refine copyA_does (tx := tx) (rt := o.type) h hR hs hy (fun v' w' hr => ?_)
   simp [execOp, ho, resolve, hb, invoke, builtin, hv, hat, hr]
  ·exact (rfl0 h).elim
 ·exact (rfl0 h).elim
end
end Go.Proofs.YtijjlpgcpdapnaaGreatDoor.Aev

/- AEV: each operation does what the evaluator says (6): literals. -/
namespace Go.Proofs.YtijjlpgcpdapnaaGreatDoor.Aev
set_option linter.unusedVariables false
set_option linter.unusedSimpArgs false
open Go

section
variable {P : Program} {sg : FuncId → Option (Nat × List Nat)} {fresh : Nat} {X : Cx} {w : World} {S : Nat → Prop} {ρ : Nat → Option Value} {H : Nat → Option Nat} {N : Nat} {st : St} {a : Act} {o : Oper} {x : Out} {lg lg' : List Loc}

theorem fold_put {off : Nat} {u : Array Value} {cs : Array Value} (h : off + u.size ≤ cs.size) :
  (u.zipIdx.foldl (fun cs (x : Value × Nat) => cs.setIfInBounds (off + x.2) x.1) cs).toList = cs.toList.take off ++ u.toList ++ cs.toList.drop (off + u.size) := by
 have hg := Great.foldl_set off u.toList 0 cs
 have e : u.zipIdx.foldl (fun cs (x : Value × Nat) => cs.setIfInBounds (off + x.2) x.1) cs = (u.toList.zipIdx 0).foldl (fun cs (x : Value × Nat) => cs.setIfInBounds (off + x.2) x.1) cs := by
  rw [← Array.foldl_toList]; simp
 rw [e]
 obtain ⟨h1, h2⟩ := hg
 apply List.ext_getElem?
 intro k
 rw [Array.getElem?_toList, h2 k]
 simp only [Nat.add_zero, Array.length_toList]
 by_cases hk : off ≤ k ∧ k < off + u.size ∧ k < cs.size
 ·rw [if_pos hk]
  have hl : (cs.toList.take off).length = off := by simp; omega
  rw [List.append_assoc, List.getElem?_append_right (by omega), hl, List.getElem?_append_left (by simp; omega)]
 ·rw [if_neg hk]
  by_cases hlt : k < off
  ·rw [List.append_assoc, List.getElem?_append_left (by simp; omega), List.getElem?_take_of_lt hlt]; simp
  ·have hl : (cs.toList.take off ++ u.toList).length = off + u.size := by simp; omega
   rw [List.getElem?_append_right (by omega), hl, List.getElem?_drop]
   by_cases hks : k < cs.size
   ·simp; congr 1; omega
   ·rw [Array.getElem?_eq_none (by omega), List.getElem?_eq_none (by simp; omega)]

theorem fillA_rep {place : Nat → Option (Nat × Nat)} : ∀ {parts : List (Nat × List AV)} {parts' : List (Nat × Value)} {cs l : List AV} {vs : Array Value}, fillA place cs parts = some l → All2 (RepAV w S ρ) cs vs.toList →
  All2 (fun p q => p.1 = q.1 ∧ All2 (RepAV w S ρ) p.2 q.2.cells.toList) parts parts' → ∃ arr, Instr.fill place vs parts' = some arr ∧ All2 (RepAV w S ρ) l arr.toList
 | [], parts', cs, l, vs, h, hc, hp => by
  rw [hp.nil_left]
  simp [fillA] at h; subst h
  exact ⟨vs, rfl, hc⟩
 | (i, new) :: parts, parts', cs, l, vs, h, hc, hp => by
  obtain ⟨⟨i', v⟩, m, rfl, ⟨e1, hv⟩, hm⟩ := hp.cons_left
  simp only at e1 hv
  subst e1
  simp only [fillA] at h
  split at h
  ·rename_i off size hpl
   split at h
   ·rename_i hsz
    split at h
    ·rename_i cs' hput
     obtain ⟨h1, h2⟩ := putCells_rep hput hc hv
     have hvl := hv.length
     simp only [Array.length_toList] at hvl h1
     have hf := fold_put (off := off) (u := v.cells) (cs := vs) (by omega)
     obtain ⟨arr, h3, h4⟩ := fillA_rep (place := place) (vs := v.cells.zipIdx.foldl (fun cs (x : Value × Nat) => cs.setIfInBounds (off + x.2) x.1) vs) h (by rw [hf]; simpa using h2) hm
     refine ⟨arr, ?_, h4⟩
     unfold Instr.fill
     simp only [hpl]
     rw [if_neg (by simp; omega)]
     exact h3
    ·simp at h
   ·simp at h
  ·simp at h

theorem partsA_rep (hR : Rep X w S ρ H N st a) : ∀ {parts : List (Nat × Operand)} {lg : List Loc} {r : List (Nat × List AV) × List Loc}, (partsA parts).run st lg = some r →
  All2 (fun p q => p.1 = q.1 ∧ All2 (RepAV w S ρ) p.2 q.2.cells.toList) r.1 (parts.map fun (p : Nat × Operand) => (p.1, a.eval p.2))
 | [], lg, r, h => by have := run_pure' h; subst this; trivial
 | (i, y) :: l, lg, r, h => by
  simp only [partsA] at h
  obtain ⟨v, lg1, h1, h⟩ := rbs h
  have hy := opd_rep hR h1
  simp only at h hy
  split at h
  ·obtain ⟨ps, lg2, h2, h⟩ := rbs h
   have := run_pure h; subst this
   exact ⟨⟨rfl, RepVV.cells hy⟩, partsA_rep hR h2⟩
  ·exact (rfl0 h).elim

theorem zeroOf_some {t : TypeId} {zero : List AV} (h : zeroOf P t = some zero) : ∃ i z, P.info? t = some i ∧ i.zero = some z ∧ ofValues z.cells.toList = some zero := by
 unfold zeroOf at h
 cases hi : P.info? t with
 | none => simp [hi] at h
 | some i =>
  cases hz : i.zero with
  | none => simp [hi, hz] at h
  | some z => exact ⟨i, z, rfl, hz, by simpa [hi, hz] using h⟩

theorem does_build {t : TypeId} {parts : Array (Nat × Operand)} (ho : o.op = .build t parts) (h : (opA P sg fresh o).run st lg = some (.out x, lg')) (hR : Rep X w S ρ H N st a) : Does P X N st a w S ρ (execOp a.eval o) x := by
 simp only [opA, ho] at h
 obtain ⟨ps, lg1, h1, h⟩ := rbs h
 have hp := partsA_rep hR h1
 simp only at hp
 split at h
 ·rename_i pl zero hpl hzero
  split at h
  ·rename_i cs hcs
   obtain rfl := out_eq h
   obtain ⟨i, z, hi, hz, hzv⟩ := zeroOf_some hzero
   obtain ⟨arr, h3, h4⟩ := fillA_rep (place := pl) (vs := z.cells) hcs (ofValues_rep hzv) hp
   have hb : P.built t (parts.map fun (p : Nat × Operand) => (p.1, a.eval p.2)).toList = some arr := by
    rw [Array.toList_map]
    unfold buildPlace at hpl
    unfold Program.built
    split at hpl
    ·rename_i fields hu
     cases hm : fields.toList.mapM (fun f => (P.info? f.type).map fun i => (f.offset, i.size)) with
     | none => simp [hm] at hpl
     | some places =>
      simp [hm] at hpl
      subst hpl
      simp only [hi, hu, hz, hm]
      simpa using h3
    ·rename_i n e hu
     cases hie : P.info? e with
     | none => simp [hie] at hpl
     | some ie =>
      simp [hie] at hpl
      subst hpl
      simp only [hi, hu, hz, hie]
      exact h3
    ·simp at hpl
   exact Does.value hR (by simp [execOp, ho, run_build (P := P) w t _ arr hb]) ⟨arr, rfl, h4⟩
  ·exact (rfl0 h).elim
 ·exact (rfl0 h).elim

theorem asmRows_spec {t : Ty} : ∀ {n : Nat} {l : List AV} {lg : List Loc} {r : (List t.den × List (Nat × Option Blk)) × List Loc}, (asmRows t n l).run st lg = some r → Mem X w S ρ H st.blk →
  ToSettle st r.1.2 ∧ r.1.1.length = n ∧ ∀ {S' : Nat → Prop} {vs : List Value}, (∀ b, S b → S' b) → Settled w S' ρ r.1.2 → All2 (RepAV w S ρ) l vs → Rows w S' t vs r.1.1
 | 0, [], lg, r, h, hm => by
  have := run_pure' h; subst this
  exact ⟨ToSettle.nil, rfl, fun _ _ hv => by rw [hv.nil_left]; exact ⟨by simp, fun i hi => by simp at hi⟩⟩
 | 0, _ :: _, lg, r, h, hm => (rfl0 h).elim
 | n + 1, l, lg, r, h, hm => by
  simp only [asmRows] at h
  obtain ⟨⟨y, wr, l'⟩, lg1, h1, h⟩ := rbs h
  obtain ⟨⟨ys, wr'⟩, lg2, h2, h⟩ := rbs h
  have := run_pure h; subst this
  obtain ⟨s1, p1, e1, n1, r1⟩ := asm_spec t h1 hm
  obtain ⟨s2, l2, r2⟩ := asmRows_spec h2 hm
  simp only at s1 e1 r1 s2 l2 r2
  refine ⟨s1.append s2, by simp [l2], fun hS hs hv => ?_⟩
  rw [e1] at hv
  obtain ⟨m1, m2, rfl, hv1, hv2⟩ := hv.split
  have hrd := r1 hS hs.left hv1
  have h1r : Rows w _ t m1 [y] := ⟨by simp [hrd.length], fun i hi => by
   have : i = 0 := by simpa using hi
   subst this
   simp only [Nat.zero_mul, List.drop_zero, List.getElem_cons_zero]
   rw [List.take_of_length_le (by rw [hrd.length]; exact Nat.le_refl _)]
   exact hrd⟩
  exact h1r.append (r2 hS hs.right hv2)

theorem zeros_rep {zero : List AV} {z : Array Value} (h : All2 (RepAV w S ρ) zero z.toList) (hz : 0 < z.size) : ∀ n : Nat, All2 (RepAV w S ρ) ((List.replicate n zero).flatten) ((List.range (n * z.size)).map (z[· % z.size]!))
 | 0 => by simp [All2]
 | n + 1 => by
  have e : (List.range ((n + 1) * z.size)).map (z[· % z.size]!) = z.toList ++ (List.range (n * z.size)).map (z[· % z.size]!) := by
   rw [Nat.add_mul, Nat.one_mul, Nat.add_comm, List.range_add, List.map_append]
   congr 1
   ·apply List.ext_getElem
    ·simp
    ·intro i h1 h2
     simp at h1
     simp [Nat.mod_eq_of_lt h1, h1]
   ·rw [List.map_map]
    apply List.map_congr_left
    intro i _
    simp
  rw [e, List.replicate_succ, List.flatten_cons]
  exact h.append (zeros_rep h hz n)

theorem does_buildSlice {t : TypeId} {len : Nat} {parts : Array (Nat × Operand)} (ho : o.op = .buildSlice t len parts) (h : (opA P sg fresh o).run st lg = some (.out x, lg')) (hR : Rep X w S ρ H N st a) : Does P X N st a w S ρ (execOp a.eval o) x := by
 simp only [opA, ho] at h
 obtain ⟨ps, lg1, h1, h⟩ := rbs h
 have hp := partsA_rep hR h1
 simp only at hp
 split at h
 ·rename_i e hu
  split at h
  ·rename_i u hut
   split at h
   ·rename_i inf zero hel hzero
    split at h
    ·rename_i hc
     simp only [Bool.and_eq_true, decide_eq_true_eq, beq_iff_eq] at hc
     obtain ⟨⟨c1, c3⟩, c4⟩ := hc
     split at h
     ·rename_i cells hcells
      obtain ⟨e', hue, hie, hsz⟩ := elemOk_some hel
      rw [hu] at hue; simp at hue; subst hue
      obtain ⟨i, z, hi, hz, hzv⟩ := zeroOf_some hzero
      rw [hie] at hi; simp at hi; subst hi
      have hzr := ofValues_rep (w := w) (S := S) (ρ := ρ) hzv
      have hzl : z.cells.size = inf.size := by have := hzr.length; simp only [Array.length_toList] at this; omega
      obtain ⟨arr, h3, h4⟩ := fillA_rep (place := fun i => some (i * inf.size, inf.size)) (vs := (Array.range (len * inf.size)).map (z.cells[· % z.cells.size]!)) hcells
       (by have := zeros_rep hzr (by omega) len; rw [hzl] at this; simpa [hzl] using this) hp
      have hrun : (Instr.buildSlice t len (parts.map fun (p : Nat × Operand) => (p.1, a.eval p.2))).run P w = .ok (.slice (some ⟨w.heap.size, 0, none⟩) len len) (w.alloc (.cells arr e)) := by
       rcases Nat.eq_zero_or_pos len with c0 | c2
       ·subst c0
        have r0 : Array.range 0 = #[] := by rfl
        have h3' : Instr.fill (fun i => some (i * inf.size, inf.size)) #[] (parts.map fun (p : Nat × Operand) => (p.1, a.eval p.2)).toList = some arr := by
         rw [Array.toList_map]; simpa [r0] using h3
        rw [Array.toList_map] at h3'
        simp [Instr.buildSlice, run_underlying hu, sizeOf, typeInfo, hie, newRow, h3', r0]
       ·have hpos : ¬ len * inf.size = 0 := by
         have := Nat.mul_le_mul c2 c1
         omega
        exact run_buildSlice (P := P) w t e len (parts.map fun (p : Nat × Operand) => (p.1, a.eval p.2)) arr inf z hu hie hz (by omega) hpos (by rw [Array.toList_map]; exact h3)
      split at h
      ·have h := run_rdB h
       split at h
       ·rename_i hfresh
        have := run_pure' h; simp at this; obtain ⟨rfl, _⟩ := this
        have hlt' : ∀ k, k < w.heap.size → (w.alloc (.cells arr e)).heap[k]? = w.heap[k]? := fun k hk => by
         show (w.heap.push _)[k]? = _
         rw [Array.getElem?_push, if_neg (by omega)]
        have hnew : (w.alloc (.cells arr e)).heap[w.heap.size]? = some (.cells arr e (0, 0)) := by
         show (w.heap.push _)[w.heap.size]? = _
         simp
        obtain ⟨hmem, hmore⟩ := hR.mem.adopt hfresh (home := some w.heap.size) (w' := w.alloc (.cells arr e))
         (fun b hb => by
          simp at hb; subst hb
          exact ⟨.inr hR.mem.size, fun hs => by have := hR.mem.old _ hs; omega, fun m C hC hh => by have := (hR.mem.rep m C hC).home_lt hh; omega⟩)
         (by show w.heap.size ≤ (w.heap.push _).size; simp) (fun k hk _ => hlt' k hk) rfl rfl rfl
         (v := Ptr w.heap.size 0) (B := .box cells)
         ⟨w.heap.size, _, e, rfl, by rw [upd_same], hnew, h4.imp fun _ _ h => h.mono (fun _ x => x) (fun b hb => hlt' b (hR.mem.old b hb)) (upd_le (hR.mem.never fresh hfresh))⟩
        exact ⟨.slice (some ⟨w.heap.size, 0, none⟩) len len, _, S, upd ρ fresh (some (Ptr w.heap.size 0)), upd H fresh (some w.heap.size), .inl (by simp [execOp, ho, hrun]), hR.of_mem (st' := st.sets _) hmem hmore (sets_tmp _ _), ⟨_, by rw [upd_same], rfl⟩, hmore⟩
       ·exact (rfl0 h).elim
      ·obtain ⟨⟨xs, wr⟩, lg2, h2, h⟩ := rbs h
       have h := run_rdB h
       split at h
       ·rename_i hfresh
        have := run_pure' h; simp at this; obtain ⟨rfl, _⟩ := this
        obtain ⟨hts, hlen, hrows⟩ := asmRows_spec h2 hR.mem
        simp only at hts hlen hrows
        obtain ⟨S1, H1, hm1, hmore1, hset1⟩ := settle_all wr hR.mem hts.all
        have hro := hrows hmore1.s hset1 h4
        have hfw : (st.sets wr).blk fresh = none := by
         rw [sets_other]
         ·exact hfresh
         ·intro p hp e
          exact hts.no hp (by rw [e]; exact hfresh)
        have hlt' : ∀ k, k < w.heap.size → (w.alloc (.cells arr e)).heap[k]? = w.heap[k]? := fun k hk => by
         show (w.heap.push _)[k]? = _
         rw [Array.getElem?_push, if_neg (by omega)]
        have hnew : (w.alloc (.cells arr e)).heap[w.heap.size]? = some (.cells arr e (0, 0)) := by
         show (w.heap.push _)[w.heap.size]? = _
         simp
        have hasz : arr.size = len * u.size := by have := hro.1; rw [hlen] at this; simpa using this
        have hrow : RowOwn (w.alloc (.cells arr e)) S1 u (.slice (some ⟨w.heap.size, 0, none⟩) xs.length len) xs w.heap.size := by
         refine rows_rowOwn (by omega) hnew hasz ?_
         rw [hlen, List.take_of_length_le (by simp [hasz])]
         exact hro.mono (fun _ x => x) (fun b hb => hlt' b (hm1.old b hb))
        obtain ⟨hmem, hmore⟩ := hm1.adopt hfw (home := some w.heap.size) (w' := w.alloc (.cells arr e))
         (fun b hb => by
          simp at hb; subst hb
          exact ⟨.inr hm1.size, fun hs => by have := hm1.old _ hs; omega, fun m C hC hh => by have := (hm1.rep m C hC).home_lt hh; omega⟩)
         (by show w.heap.size ≤ (w.heap.push _).size; simp) (fun k hk _ => hlt' k hk) rfl rfl rfl
         (v := .slice (some ⟨w.heap.size, 0, none⟩) xs.length len) (B := .own u true xs)
         ⟨_, by rw [upd_same], .inl ⟨_, rfl, hrow⟩⟩
        have hM := hmore1.trans hmore
        refine ⟨.slice (some ⟨w.heap.size, 0, none⟩) xs.length len, w.alloc (.cells arr e), S1, upd ρ fresh (some (.slice (some ⟨w.heap.size, 0, none⟩) xs.length len)), upd H1 fresh (some w.heap.size), .inl (by simp [execOp, ho, hrun, hlen]), hR.of_mem (st' := st.sets _) ?_ hM (sets_tmp _ _), ⟨by rw [upd_same], _, _, _, rfl⟩, hM⟩
        rw [sets_append]
        exact hmem
       ·exact (rfl0 h).elim
     ·exact (rfl0 h).elim
    ·exact (rfl0 h).elim
   ·exact (rfl0 h).elim
  ·exact (rfl0 h).elim
 ·exact (rfl0 h).elim
theorem does_alloc {t : TypeId} (ho : o.op = .alloc t) (h : (opA P sg fresh o).run st lg = some (.out x, lg')) (hR : Rep X w S ρ H N st a) : Does P X N st a w S ρ (execOp a.eval o) x := by
 simp only [opA, ho] at h
 split at h
 ·rename_i z hz
  split at h
  ·rename_i cs hcs
   cases hi : P.info? t with
   | none => simp [hi] at hz
   | some inf =>
    have hz : inf.zero = some z := by simpa [hi] using hz
    have hv : (zeroValue t).run P w = .ok z w := by simp [zeroValue, typeInfo_run hi, hz]
    have hs : (execOp a.eval o).run P w = .ok (.value (Ptr w.heap.size 0)) { w with heap := w.heap.push (.cells z.cells t (0, 0)) } := by simp [execOp, ho, Instr.alloc, newVar, newRow, hv]
    have hcr := ofValues_rep (w := w) (S := S) (ρ := ρ) hcs
    split at h
    ·rename_i m u har
     obtain ⟨⟨xs, wr⟩, lg1, h1, h⟩ := rbs h
     obtain ⟨hts, hlen, hrows⟩ := asmRows_spec h1 hR.mem
     simp only at h hlen hrows
     split at h
     ·have h := run_rdB h
      split at h
      ·rename_i hfresh
       have := run_pure' h; simp at this; obtain ⟨rfl, _⟩ := this
       have hro := hrows (S' := S) (fun _ x => x) (by intro p hp; simp at hp) hcr
       have hlt : ∀ b, S b → ({ w with heap := w.heap.push (.cells z.cells t (0, 0)) } : World).heap[b]? = w.heap[b]? := fun b hb => by
        have := hR.mem.old b hb
        show (w.heap.push _)[b]? = _
        rw [Array.getElem?_push, if_neg (by omega)]
       have hnew : ({ w with heap := w.heap.push (.cells z.cells t (0, 0)) } : World).heap[w.heap.size]? = some (.cells z.cells t (0, 0)) := by
        show (w.heap.push _)[w.heap.size]? = _
        simp
       have hasz : z.cells.size = m * u.size := by have := hro.1; rw [hlen] at this; simpa using this
       have hrow : RowOwn { w with heap := w.heap.push (.cells z.cells t (0, 0)) } S u (.slice (some ⟨w.heap.size, 0, none⟩) xs.length m) xs w.heap.size := by
        refine rows_rowOwn (by omega) hnew hasz ?_
        rw [hlen, List.take_of_length_le (by simp [hasz])]
        exact hro.mono (fun _ x => x) hlt
       rw [hlen] at hrow
       have hρ := upd_le (v := .slice (some ⟨w.heap.size, 0, none⟩) m m) (hR.mem.never fresh hfresh)
       have hm := hR.mem.alloc hfresh (o := .cells z.cells t (0, 0)) (v := .slice (some ⟨w.heap.size, 0, none⟩) m m) (B := .own u true xs)
        ⟨_, by rw [upd_same], .inl ⟨w.heap.size, rfl, hrow⟩⟩
       have hmore : More w { w with heap := w.heap.push (.cells z.cells t (0, 0)) } S S ρ (upd ρ fresh (some (.slice (some ⟨w.heap.size, 0, none⟩) m m))) := ⟨fun _ x => x, hlt, hρ⟩
       exact ⟨_, _, S, _, _, .inl hs, hR.of_mem hm hmore rfl, ⟨w.heap.size, by rw [upd_same], rfl⟩, hmore⟩
      ·exact (rfl0 h).elim
     ·exact (rfl0 h).elim
    ·exact newBox_does (e := t) h hR hcr hs
  ·exact (rfl0 h).elim
 ·exact (rfl0 h).elim
theorem made_chunk {z : Array Value} {n i : Nat} (hz : 0 < z.size) (hi : i < n) : (((List.range (n * z.size)).map (z[· % z.size]!)).drop (i * z.size)).take z.size = z.toList := by
 have hle : (i + 1) * z.size ≤ n * z.size := Nat.mul_le_mul_right _ hi
 rw [Nat.add_mul, Nat.one_mul] at hle
 apply List.ext_getElem
 ·simp; omega
 ·intro k h1 h2
  simp at h1 h2
  simp only [List.getElem_take, List.getElem_drop, List.getElem_map, List.getElem_range]
  have : (i * z.size + k) % z.size = k := by rw [Nat.mul_comm, Nat.mul_add_mod]; exact Nat.mod_eq_of_lt h2
  rw [this, getElem!_pos z k h2]; simp

theorem made_flat {z : Array Value} {sz : Nat} (hz : 0 < z.size) (hs : z.size = sz) (m : Nat) : (madeCells z (m * sz)).toList = (List.replicate m z.toList).flatten := by
 subst hs
 induction m with
 | zero => simp [madeCells]
 | succ m ih =>
  rw [List.replicate_succ', List.flatten_append, ← ih]
  simp only [madeCells, Array.toList_map, Array.toList_range, Nat.add_mul, Nat.one_mul, List.range_add, List.map_append, List.map_map, List.flatten_cons, List.flatten_nil, List.append_nil]
  congr 1
  apply List.ext_getElem
  ·simp
  ·intro k h1 h2
   simp at h1 h2
   simp only [List.getElem_map, List.getElem_range, Function.comp_apply]
   have : (m * z.size + k) % z.size = k := by rw [Nat.mul_comm, Nat.mul_add_mod]; exact Nat.mod_eq_of_lt h2
   rw [this, getElem!_pos z k h2]; simp

theorem rep_flat {α β : Type} {R : α → β → Prop} {l : List α} {m : List β} (h : All2 R l m) : ∀ n, All2 R (List.replicate n l).flatten (List.replicate n m).flatten
 | 0 => trivial
 | n + 1 => by
  rw [List.replicate_succ, List.replicate_succ, List.flatten_cons, List.flatten_cons]
  exact h.append (rep_flat h n)
theorem does_makeSlice {t : TypeId} {lo co : Operand} (ho : o.op = .makeSlice t lo co) (h : (opA P sg fresh o).run st lg = some (.out x, lg')) (hR : Rep X w S ρ H N st a) : Does P X N st a w S ρ (execOp a.eval o) x := by
 simp only [opA, ho] at h
 obtain ⟨lv, lg1, h1, h⟩ := rbs h
 obtain ⟨⟨kl, l⟩, lg2, h2, h⟩ := rbs h
 obtain ⟨cv, lg3, h3, h⟩ := rbs h
 obtain ⟨⟨kc, c⟩, lg4, h4, h⟩ := rbs h
 have hl := opd_rep hR h1
 rw [asI_inv h2] at hl
 have hl := rep_i hl
 have hcv := opd_rep hR h3
 rw [asI_inv h4] at hcv
 have hcv := rep_i hcv
 simp only at h hl hcv
 unfold makeA at h
 split at h
 ·rename_i e hu
  split at h
  ·rename_i u hut
   split at h
   ·rename_i inf zero hel hzero
    split at h
    ·rename_i hc
     simp only [Bool.and_eq_true, decide_eq_true_eq, beq_iff_eq] at hc
     obtain ⟨⟨c1, c2⟩, c3⟩ := hc
     obtain ⟨_, lg5, h5, h⟩ := rbs h
     have hg := run_guard h5
     simp only [Bool.and_eq_true, decide_eq_true_eq, maxBytes] at hg
     obtain ⟨⟨g1, g2⟩, g3⟩ := hg
     obtain ⟨⟨z0, wr, rest⟩, lg6, h6, h⟩ := rbs h
     obtain ⟨hts, l1, e1, n1, hrd⟩ := asm_spec _ h6 hR.mem
     simp only at h hts e1 hrd
     split at h
     ·have e1 : l1 = zero := by simpa using e1.symm
      subst e1
      obtain ⟨e', hue, hie, hsz⟩ := elemOk_some hel
      rw [hu] at hue; simp at hue; subst hue
      obtain ⟨i, z, hi, hz, hzv⟩ := zeroOf_some hzero
      rw [hie] at hi; simp at hi; subst hi
      have hzr := ofValues_rep (w := w) (S := S) (ρ := ρ) hzv
      have hzl : z.cells.size = inf.size := by have := hzr.length; simp only [Array.length_toList] at this; omega
      have hrdz := hrd (S' := S) (fun _ x => x) (fun p hp => by simp at hp) hzr
      have g3' : c * inf.bytes ≤ 35184372088832 := of_decide_eq_true g3
      have hb : (inf.bytes : Int) * c ≤ 281474976710656 := by rw [Int.mul_comm]; omega
      have hcle : c ≤ 9223372036854775807 := by
       have : c * 1 ≤ c * inf.bytes := Int.mul_le_mul_of_nonneg_left (by omega) (by omega)
       omega
      have hrun := run_make (P := P) w t e inf z hu hie hz kl kc l c g1 g2 hb hcle
      have hlt' : ∀ k, k < w.heap.size → (w.alloc (.cells (madeCells z.cells (c.toNat * inf.size)) e)).heap[k]? = w.heap[k]? := fun k hk => by
       show (w.heap.push _)[k]? = _
       rw [Array.getElem?_push, if_neg (by omega)]
      have hnew : (w.alloc (.cells (madeCells z.cells (c.toNat * inf.size)) e)).heap[w.heap.size]? = some (.cells (madeCells z.cells (c.toNat * inf.size)) e (0, 0)) := by
       show (w.heap.push _)[w.heap.size]? = _
       simp
      have hown : ∀ {lg : List Loc}, (ownRow fresh u l z0).run st lg = some (.out x, lg') → Does P X N st a w S ρ (execOp a.eval o) x := by
       intro lg h
       have h := run_rdB h
       split at h
       ·rename_i hfresh
        have := run_pure' h; simp at this; obtain ⟨rfl, _⟩ := this
        have hrow : RowOwn (w.alloc (.cells (madeCells z.cells (c.toNat * inf.size)) e)) S u (.slice (some ⟨w.heap.size, 0, none⟩) (List.replicate l.toNat z0).length c.toNat) (List.replicate l.toNat z0) w.heap.size := by
         refine rows_rowOwn (by simp; omega) hnew (by rw [size_madeCells, hsz]) ?_
         have etake : (madeCells z.cells (c.toNat * inf.size)).toList.take ((List.replicate l.toNat z0).length * u.size) = (List.range (l.toNat * z.cells.size)).map (z.cells[· % z.cells.size]!) := by
          simp only [madeCells, Array.toList_map, Array.toList_range, List.length_replicate]
          rw [← List.map_take, List.take_range, hzl, hsz]
          congr 2
          have : l.toNat * u.size ≤ c.toNat * u.size := Nat.mul_le_mul_right _ (by omega)
          omega
         rw [etake]
         refine ⟨by simp [hzl, hsz], fun i hi => ?_⟩
         have hi : i < l.toNat := by simpa using hi
         have hchunk := made_chunk (z := z.cells) (n := l.toNat) (i := i) (by omega) hi
         rw [← hsz, ← hzl, hchunk]
         simp only [List.getElem_replicate]
         rw [hzl]
         exact Rd.mono (fun _ x => x) (fun b hb => hlt' b (hR.mem.old b hb)) _ _ _ hrdz
        obtain ⟨hmem, hmore⟩ := hR.mem.adopt hfresh (home := some w.heap.size) (w' := w.alloc (.cells (madeCells z.cells (c.toNat * inf.size)) e))
         (fun b hb => by
          simp at hb; subst hb
          exact ⟨.inr hR.mem.size, fun hs => by have := hR.mem.old _ hs; omega, fun m C hC hh => by have := (hR.mem.rep m C hC).home_lt hh; omega⟩)
         (by show w.heap.size ≤ (w.heap.push _).size; simp) (fun k hk _ => hlt' k hk) rfl rfl rfl
         (v := .slice (some ⟨w.heap.size, 0, none⟩) l.toNat c.toNat) (B := .own u true (List.replicate l.toNat z0))
         ⟨_, by rw [upd_same], .inl ⟨_, rfl, by simpa using hrow⟩⟩
        exact ⟨.slice (some ⟨w.heap.size, 0, none⟩) l.toNat c.toNat, _, S, upd ρ fresh (some (.slice (some ⟨w.heap.size, 0, none⟩) l.toNat c.toNat)), upd H fresh (some w.heap.size), .inl (by simp [execOp, ho, hl, hcv, hrun]), hR.of_mem (st' := st.sets _) hmem hmore (sets_tmp _ _), ⟨by rw [upd_same], _, _, _, rfl⟩, hmore⟩
       ·exact (rfl0 h).elim
      have hbox : ∀ (m : Nat) {lg : List Loc}, l = m → c = m → (boxRow fresh m l1).run st lg = some (.out x, lg') → Does P X N st a w S ρ (execOp a.eval o) x := by
       intro m lg hlm hcm h
       have h := run_rdB h
       split at h
       ·rename_i hfresh
        have := run_pure' h; simp at this; obtain ⟨rfl, _⟩ := this
        have hcells : All2 (RepAV w S ρ) (List.replicate m l1).flatten (madeCells z.cells (c.toNat * inf.size)).toList := by
         have hct : c.toNat = m := by omega
         have hzs : z.cells.toList.length = inf.size := by simpa using hzl
         have e1 : (madeCells z.cells (c.toNat * inf.size)).toList = (List.replicate m z.cells.toList).flatten := by
          rw [hct]
          exact made_flat (by omega) (by omega) m
         rw [e1]
         exact rep_flat hzr m
        obtain ⟨hmem, hmore⟩ := hR.mem.adopt hfresh (home := some w.heap.size) (w' := w.alloc (.cells (madeCells z.cells (c.toNat * inf.size)) e))
         (fun b hb => by
          simp at hb; subst hb
          exact ⟨.inr hR.mem.size, fun hs => by have := hR.mem.old _ hs; omega, fun m C hC hh => by have := (hR.mem.rep m C hC).home_lt hh; omega⟩)
         (by show w.heap.size ≤ (w.heap.push _).size; simp) (fun k hk _ => hlt' k hk) rfl rfl rfl
         (v := Ptr w.heap.size 0) (B := .box (List.replicate m l1).flatten)
         ⟨w.heap.size, _, e, rfl, by rw [upd_same], hnew, hcells.imp fun _ _ h => h.mono (fun _ x => x) (fun b hb => hlt' b (hR.mem.old b hb)) (upd_le (hR.mem.never fresh hfresh))⟩
        exact ⟨.slice (some ⟨w.heap.size, 0, none⟩) l.toNat c.toNat, _, S, upd ρ fresh (some (Ptr w.heap.size 0)), upd H fresh (some w.heap.size), .inl (by simp [execOp, ho, hl, hcv, hrun]), hR.of_mem (st' := st.sets _) hmem hmore (sets_tmp _ _), ⟨_, by rw [upd_same], by rw [hlm, hcm]; rfl⟩, hmore⟩
       ·exact (rfl0 h).elim
      split at h
      ·have h := run_brb h
       split at h
       ·rename_i hc
        simp only [Bool.and_eq_true, decide_eq_true_eq] at hc
        exact hbox 1 hc.1 hc.2 h
       ·have h := run_brb h
        split at h
        ·rename_i hc
         simp only [Bool.and_eq_true, decide_eq_true_eq] at hc
         exact hbox 2 hc.1 hc.2 h
        ·exact hown h
      ·exact hown h
     ·exact (rfl0 h).elim
    ·exact (rfl0 h).elim
   ·exact (rfl0 h).elim
  ·exact (rfl0 h).elim
 ·exact (rfl0 h).elim
end
end Go.Proofs.YtijjlpgcpdapnaaGreatDoor.Aev

/- AEV: each operation does what the evaluator says (7): maps. -/
namespace Go.Proofs.YtijjlpgcpdapnaaGreatDoor.Aev
set_option linter.unusedVariables false
set_option linter.unusedSimpArgs false
open Go

section
variable {P : Program} {sg : FuncId → Option (Nat × List Nat)} {fresh : Nat} {X : Cx} {w : World} {S : Nat → Prop} {ρ : Nat → Option Value} {H : Nat → Option Nat} {N : Nat} {st : St} {a : Act} {o : Oper} {x : Out} {lg lg' : List Loc}

theorem mapTy_some {t : TypeId} {kt et : Ty} {e : TypeId} (h : mapTy P t = some (kt, et, e)) : ∃ k n m, P.underlying t = some (.map k e) ∧ tyOf P tyD k = some kt ∧ tyOf P tyD e = some et ∧ isAggT P k = some (false, n) ∧ isAggT P e = some (false, m) ∧ keyTy kt = true := by
 unfold mapTy at h
 split at h
 ·rename_i k e' hu
  split at h
  ·rename_i kt' et' n m h1 h2 h3 h4
   split at h
   ·rename_i hk
    simp at h; obtain ⟨rfl, rfl, rfl⟩ := h
    exact ⟨k, n, m, hu, h1, h2, h3, h4, hk⟩
   ·simp at h
  ·simp at h
 ·simp at h
theorem one_inv {y : TV} {r : AV × List Loc} (h : (one y).run st lg = some r) : y = .v (.one r.1) := by
 unfold one at h
 split at h
 ·have := run_pure' h; subst this; rfl
 ·exact (rfl0 h).elim
theorem does_makeMap {t : TypeId} {r : Option Operand} (ho : o.op = .makeMap t r) (h : (opA P sg fresh o).run st lg = some (.out x, lg')) (hR : Rep X w S ρ H N st a) : Does P X N st a w S ρ (execOp a.eval o) x := by
 cases r with
 | some r => simp only [opA, ho] at h; exact (rfl0 h).elim
 | none =>
  simp only [opA, ho] at h
  unfold makeMapA at h
  split at h
  ·rename_i kt et e hmt
   have h := run_rdB h
   split at h
   ·rename_i hfresh
    have := run_pure' h; simp at this; obtain ⟨rfl, _⟩ := this
    have hlt : ∀ k, S k → ({ w with heap := w.heap.push (.map #[] 0) } : World).heap[k]? = w.heap[k]? := fun k hk => by
     show (w.heap.push _)[k]? = _
     have := hR.mem.old k hk
     rw [Array.getElem?_push, if_neg (by omega)]
    have hm := hR.mem.alloc hfresh (o := .map #[] 0) (v := .map (some w.heap.size)) (B := .mp kt et [])
     ⟨w.heap.size, #[], rfl, by rw [upd_same], by simp, trivial, rfl⟩
    have hmore : More w { w with heap := w.heap.push (.map #[] 0) } S S ρ (upd ρ fresh (some (.map (some w.heap.size)))) := ⟨fun _ x => x, hlt, upd_le (hR.mem.never fresh hfresh)⟩
    refine ⟨_, _, S, _, _, .inl ?_, hR.of_mem (st' := st.sets _) hm hmore (sets_tmp _ _), ⟨w.heap.size, by rw [upd_same], rfl⟩, hmore⟩
    have : (Instr.makeMap t none).run P w = .ok (.map (some w.heap.size)) (w.alloc (.map #[] 0)) := rfl
    simp [execOp, ho, this]
   ·exact (rfl0 h).elim
  ·exact (rfl0 h).elim

theorem findNow_spec {d : TypeDesc} {kt et : Ty} {k : kt.den} {kv : Value} (hd : (∃ i, kt = .int i ∧ d = .int i) ∨ (kt = .str ∧ d = .string)) (hk : Rd w S kt [kv] k) :
  ∀ {es : List (kt.den × et.den)} {vs : List MapEntry} (i : Nat), All2 (fun (x : kt.den × et.den) e => Rd w S kt [e.key] x.1 ∧ Rd w S et [e.val] x.2) es vs →
   match findD k es with
   | none => Instr.findNow d kv vs i = some none
   | some y => ∃ j v, Instr.findNow d kv vs i = some (some (j, v)) ∧ Rd w S et [v] y
 | [], [], i, _ => by simp [findD, Instr.findNow]
 | x :: es, e :: vs, i, ⟨⟨h1, h2⟩, h3⟩ => by
  have ih := findNow_spec hd hk (i + 1) h3
  have hs : Instr.sameNow d kv e.key = some (keyEq kt k x.1) := by
   rcases hd with ⟨j, rfl, rfl⟩ | ⟨rfl, rfl⟩
   ·simp [Rd] at hk h1
    rw [hk, h1]
    simp [Instr.sameNow, keyEq]
   ·simp [Rd] at hk h1
    rw [hk, h1]
    simp only [Instr.sameNow, keyEq, ba_beq]
  simp only [findD]
  cases hq : keyEq kt k x.1 with
  | true => exact ⟨i, e.val, by simp [Instr.findNow, hs, hq], h2⟩
  | false =>
   simp only [cond_false]
   split at ih
   ·simp [Instr.findNow, hs, hq, ih]
   ·obtain ⟨j, v, h4, h5⟩ := ih
    exact ⟨j, v, by simp [Instr.findNow, hs, hq, h4], h5⟩
 | [], _ :: _, _, h => h.elim
 | _ :: _, [], _, h => h.elim
theorem keyTy_desc {k : TypeId} {kt : Ty} (h : tyOf P tyD k = some kt) (hk : keyTy kt = true) : ∃ d, P.underlying k = some d ∧ ((∃ i, kt = .int i ∧ d = .int i) ∨ (kt = .str ∧ d = .string)) := by
 unfold tyD at h
 unfold tyOf at h
 split at h
 ·simp at h; subst h; simp [keyTy] at hk
 ·rename_i i hu; simp at h; subst h; exact ⟨_, hu, .inl ⟨i, rfl, rfl⟩⟩
 ·rename_i hu; simp at h; subst h; exact ⟨_, hu, .inr ⟨rfl, rfl⟩⟩
 ·simp at h; subst h; simp [keyTy] at hk
 ·rename_i e hu
  simp only [Option.map_eq_some_iff] at h
  obtain ⟨u, _, rfl⟩ := h; simp [keyTy] at hk
 ·rename_i fs hu
  exfalso
  have : ∀ (l : List Field) (g : TypeId → Option Ty), l.foldr (fun f r => match g f.type, r with | some a, some b => some (.pair a b) | _, _ => none) (some .unit) = some kt → keyTy kt = true → False := by
   intro l g
   cases l with
   | nil => intro h hk; simp at h; subst h; simp [keyTy] at hk
   | cons f l =>
    intro h hk
    simp only [List.foldr_cons] at h
    split at h
    ·simp at h; subst h; simp [keyTy] at hk
    ·simp at h
  exact this _ _ h hk
 ·rename_i n e hu
  simp only [Option.map_eq_some_iff] at h
  obtain ⟨u, _, rfl⟩ := h
  cases n with
  | zero => simp [keyTy] at hk
  | succ n => simp [List.replicate_succ, keyTy] at hk
 ·simp at h
theorem checkKey_ok {k : TypeId} {d : TypeDesc} {kt : Ty} {b : Bool} {v : Value} (hu : P.underlying k = some d) (hd : (∃ i, kt = .int i ∧ d = .int i) ∨ (kt = .str ∧ d = .string)) : (Instr.checkKey b 10000 k v).run P w = .ok () w := by
 have h : ∀ n, (Instr.checkKey b (n + 1) k v).run P w = .ok () w := fun n => by
  rcases hd with ⟨i, _, rfl⟩ | ⟨_, rfl⟩
  ·simp [Instr.checkKey, ur0 hu]
  ·simp [Instr.checkKey, ur0 hu]
 exact h 9999
theorem getMap_run {b : Nat} {vs : Array MapEntry} {c : Nat} (h : w.heap[b]? = some (.map vs c)) : (getObj b).run P w = .ok (.map vs c) w := by
 simp [getObj, Sem.run, h]

theorem behindA_rep {ag : Bool} {ty : Ty} {x : ty.den} {y : TV} {t : TypeId} {v : Value} (h : behindA ag ty x = some y) (hv : RepAV w S ρ (.ifc t ag ty x) v) : ∃ u, v = .iface t u ∧ RepTV w S ρ y u := by
 obtain ⟨us, u, h1, h2, h3⟩ := hv
 refine ⟨u, h1, ?_⟩
 have hfl := flat_rep (ρ := ρ) ty us x h2
 cases ag with
 | true =>
  simp only [behindA, Option.some.injEq] at h
  subst h
  exact ⟨us.toArray, h3, by simpa using hfl⟩
 | false =>
  simp only [behindA] at h
  split at h
  ·rename_i c hc
   simp at h; subst h
   rw [hc] at hfl
   simp only at h3
   rw [h3] at hfl
   exact hfl.1
  ·simp at h
theorem does_typeAssert {y : Operand} {xT T : TypeId} {ok : Bool} (ho : o.op = .typeAssert y xT T ok) (h : (opA P sg fresh o).run st lg = some (.out x, lg')) (hR : Rep X w S ρ H N st a) : Does P X N st a w S ρ (execOp a.eval o) x := by
 simp only [opA, ho] at h
 split at h
 ·rename_i hk
  subst hk
  replace h := rbs h
  obtain ⟨yv, lg1, h1, h⟩ := h
  have hy := opd_rep hR h1
  simp only at h hy
  unfold assertA at h
  split at h
  ·rename_i t ag ty d
   split at h
   ·exact (rfl0 h).elim
   ·rename_i u hnu hu
    have hrun : ∀ u0 v, a.eval y = .iface t u0 → (t = T → v = .tuple #[u0, .bool true]) → (¬ t = T → ∃ z, (zeroValue T).run P w = .ok z w ∧ v = .tuple #[z, .bool false]) → (execOp a.eval o).run P w = .ok (.value v) w := by
     intro u0 v hv e1 e2
     have : (Instr.typeAssert (.iface t u0) xT T true).run P w = .ok v w := by
      unfold Instr.typeAssert
      simp only [Sem.run_bind, ur0 hu, Result.andThen]
      by_cases c : t = T
      ·rw [e1 c]
       cases u <;> first | exact (hnu _ rfl).elim | simp [c]
      ·obtain ⟨z, hz, hv⟩ := e2 c
       rw [hv]
       cases u <;> first | exact (hnu _ rfl).elim | simp [c, hz, Result.andThen]
     simp [execOp, ho, hv, this]
    split at h
    ·rename_i ht
     split at h
     ·rename_i z hb
      obtain ⟨u0, hv, hr⟩ := behindA_rep (ρ := ρ) hb hy
      obtain rfl := out_eq h
      exact Does.value hR (v := .tuple #[u0, .bool true]) (hrun u0 _ hv (fun _ => rfl) (fun c => (c ht).elim)) ⟨_, rfl, hr, rfl, trivial⟩
     ·exact (rfl0 h).elim
    ·rename_i ht
     split at h
     ·rename_i z hz
      obtain ⟨us, u0, hv, _⟩ := hy
      obtain ⟨zv, hz1, hz2⟩ := Option.bind_eq_some_iff.1 hz
      obtain ⟨i, hi, hz3⟩ := Option.bind_eq_some_iff.1 hz1
      have hzero : (zeroValue T).run P w = .ok zv w := by simp [zeroValue, typeInfo_run hi, hz3]
      obtain rfl := out_eq h
      exact Does.value hR (v := .tuple #[zv, .bool false]) (hrun u0 _ hv (fun c => (ht c).elim) (fun _ => ⟨zv, hzero, rfl⟩)) ⟨_, rfl, ofConst_rep hz2, rfl, trivial⟩
     ·exact (rfl0 h).elim
   ·exact (rfl0 h).elim
  ·exact (rfl0 h).elim
 ·exact (rfl0 h).elim
theorem does_lookup {t : TypeId} {m k : Operand} {ok : Bool} (ho : o.op = .lookup t m k ok) (h : (opA P sg fresh o).run st lg = some (.out x, lg')) (hR : Rep X w S ρ H N st a) : Does P X N st a w S ρ (execOp a.eval o) x := by
 simp only [opA, ho] at h
 replace h := rbs h
 obtain ⟨mv, lg1, h1, h⟩ := h
 replace h := rbs h
 obtain ⟨kv, lg2, h2, h⟩ := h
 have hm := opd_rep hR h1
 have hk := opd_rep hR h2
 simp only at h hm hk
 unfold lookupA at h
 split at h
 ·rename_i kt et e hmt
  obtain ⟨kT, n1, n2, hu, hkt, het, hka, hea, hky⟩ := mapTy_some hmt
  obtain ⟨d, hku, hd⟩ := keyTy_desc hkt hky
  split at h
  ·rename_i n
   replace h := rbs h
   obtain ⟨c, lg3, h3, h⟩ := h
   have hc := one_inv h3
   simp only at hc; subst hc
   replace h := rbs h
   obtain ⟨⟨dk, wr⟩, lg4, h4, h⟩ := h
   replace h := rbs h
   obtain ⟨B, lg5, h5, h⟩ := h
   have hb := run_rB h5
   simp only at h hb
   split at h
   ·rename_i kt' et' es
    split at h
    ·rename_i he
     obtain ⟨rfl, rfl⟩ := he
     simp only at h
     split at h
     ·rename_i z hz
      replace h := rbs h
      obtain ⟨⟨dz, wz⟩, lg6, h6, h⟩ := h
      simp only at h
      split at h
      ·obtain ⟨hts, hrd⟩ := toD_spec h4 hR.mem
       obtain ⟨htz, hrz⟩ := toD_spec h6 hR.mem
       simp only at hrd hrz
       have hkr := hrd (S' := S) (fun _ x => x) (fun p hp => by simp at hp) hk
       obtain ⟨inf, zv, hi, hz', hzv⟩ : ∃ inf zv, P.info? e = some inf ∧ inf.zero = some zv ∧ ofValue zv = some z := by
        cases hi : P.info? e with
        | none => simp [hi] at hz
        | some i =>
         cases hz' : i.zero with
         | none => simp [hi, hz'] at hz
         | some v => exact ⟨i, v, rfl, hz', by simpa [hi, hz'] using hz⟩
       have hz1 := ofValue_rep (w := w) (S := S) (ρ := ρ) hzv
       have hzd := hrz (S' := S) (fun _ x => x) (fun p hp => by simp at hp) hz1
       obtain ⟨b, hρ, hmv⟩ := hm
       obtain ⟨b', vs, hh, hρ', hcell, hents, _⟩ := hR.mem.rep n _ hb
       rw [hρ] at hρ'; cases hρ'
       have hzero : (zeroValue e).run P w = .ok zv w := by simp [zeroValue, typeInfo_run hi, hz']
       have hfind := findNow_spec (w := w) (S := S) (et := et') hd hkr 0 hents
       have hrun : ∀ v bb, (Instr.findNow d (a.eval k) vs.toList 0 = some none ∧ v = zv ∧ bb = false ∨ ∃ j, Instr.findNow d (a.eval k) vs.toList 0 = some (some (j, v)) ∧ bb = true) →
         (Instr.lookup t (a.eval m) (a.eval k) ok).run P w = .ok (if ok then .tuple #[v, .bool bb] else v) w := by
        intro v bb hf
        rcases hf with ⟨hf, rfl, rfl⟩ | ⟨j, hf, rfl⟩
        ·cases ok <;> simp [Instr.lookup, ur0 hu, hmv, getMap_run hcell, checkKey_ok hku hd, Instr.findKey, ur0 hku, hf, hzero]
        ·cases ok <;> simp [Instr.lookup, ur0 hu, hmv, getMap_run hcell, checkKey_ok hku hd, Instr.findKey, ur0 hku, hf]
       have fin : ∀ v bb, (Instr.lookup t (a.eval m) (a.eval k) ok).run P w = .ok (if ok then .tuple #[v, .bool bb] else v) w → Rd w S et' [v] ((findD dk es).getD dz) → bb = (findD dk es).isSome → Does P X N st a w S ρ (execOp a.eval o) x := by
        intro v bb hr hv hbb
        cases ok with
        | true =>
         obtain rfl := out_eq h
         exact Does.value hR (v := .tuple #[v, .bool bb]) (by simp [execOp, ho, hr]) ⟨_, rfl, hv, by subst hbb; rfl, trivial⟩
        | false =>
         obtain rfl := outA_eq h
         exact Does.value hR (v := v) (by simp [execOp, ho, hr]) hv
       split at hfind
       ·rename_i hf
        exact fin zv false (hrun zv false (.inl ⟨hfind, rfl, rfl⟩)) (by rw [hf]; exact hzd) (by rw [hf]; rfl)
       ·rename_i y hf
        obtain ⟨j, v, h7, h8⟩ := hfind
        exact fin v true (hrun v true (.inr ⟨j, h7, rfl⟩)) (by rw [hf]; exact h8) (by rw [hf]; rfl)
      ·exact (rfl0 h).elim
     ·exact (rfl0 h).elim
    ·exact (rfl0 h).elim
   ·exact (rfl0 h).elim
  ·exact (rfl0 h).elim
 ·exact (rfl0 h).elim

theorem does_insert {t : TypeId} {m k v : Operand} (ho : o.op = .insert t m k v) (h : (opA P sg fresh o).run st lg = some (.out x, lg')) (hR : Rep X w S ρ H N st a) : Does P X N st a w S ρ (execOp a.eval o) x := by
 simp only [opA, ho] at h
 replace h := rbs h
 obtain ⟨mv, lg1, h1, h⟩ := h
 replace h := rbs h
 obtain ⟨kv, lg2, h2, h⟩ := h
 replace h := rbs h
 obtain ⟨vv, lg2', h2', h⟩ := h
 have hm := opd_rep hR h1
 have hk := opd_rep hR h2
 have hv := opd_rep hR h2'
 simp only at h hm hk hv
 unfold putMapA at h
 split at h
 ·rename_i kt et e hmt
  obtain ⟨kT, n1, n2, hu, hkt, het, hka, hea, hky⟩ := mapTy_some hmt
  obtain ⟨d, hku, hd⟩ := keyTy_desc hkt hky
  split at h
  ·rename_i n
   replace h := rbs h
   obtain ⟨c, lg3, h3, h⟩ := h
   have hc := one_inv h3
   simp only at hc; subst hc
   replace h := rbs h
   obtain ⟨⟨dk, wr⟩, lg4, h4, h⟩ := h
   replace h := rbs h
   obtain ⟨c', lg3', h3', h⟩ := h
   have hc' := one_inv h3'
   simp only at hc'; subst hc'
   replace h := rbs h
   obtain ⟨⟨dv, wr'⟩, lg4', h4', h⟩ := h
   replace h := rbs h
   obtain ⟨B, lg5, h5, h⟩ := h
   have hb := run_rB h5
   simp only at h hb
   split at h
   ·rename_i kt' et' es
    split at h
    ·rename_i he
     obtain ⟨rfl, rfl⟩ := he
     simp only at h
     replace h := rbs h
     obtain ⟨_, lg6, h6, h⟩ := h
     have hg := run_guard h6
     simp only [Option.isNone_iff_eq_none] at hg
     split at h
     ·have := run_pure' h; simp at this; obtain ⟨rfl, _⟩ := this
      obtain ⟨hts, hrd⟩ := toD_spec h4 hR.mem
      obtain ⟨htv, hrv⟩ := toD_spec h4' hR.mem
      simp only at hrd hrv
      have hkr := hrd (S' := S) (fun _ x => x) (fun p hp => by simp at hp) hk
      have hvr := hrv (S' := S) (fun _ x => x) (fun p hp => by simp at hp) hv
      obtain ⟨b, hρ, hmv⟩ := hm
      obtain ⟨b', vs, hh, hρ', hcell, hents, hborn⟩ := hR.mem.rep n _ hb
      rw [hρ] at hρ'; cases hρ'
      have hfind := findNow_spec (w := w) (S := S) (et := et') hd hkr 0 hents
      rw [hg] at hfind
      simp only at hfind
      have hblt : b < w.heap.size := (Array.getElem?_eq_some_iff.1 hcell).1
      obtain ⟨w2, hw2⟩ : ∃ w2 : World, w2 = { w with heap := w.heap.setIfInBounds b (.map (vs.push { key := a.eval k, val := a.eval v, born := vs.size }) (vs.size + 1)) } := ⟨_, rfl⟩
      have hset : (setObj b (.map (vs.push { key := a.eval k, val := a.eval v, born := vs.size }) (vs.size + 1))).run P w = .ok () w2 := by
       rw [hw2]; simp [setObj, Sem.run, hcell]
      have hrun : (Instr.mapUpdate t (a.eval m) (a.eval k) (a.eval v)).run P w = .ok () w2 := by
       simp [Instr.mapUpdate, ur0 hu, hmv, getMap_run hcell, checkKey_ok hku hd, Instr.findKey, ur0 hku, hfind, hset]
      have hoth : ∀ j, j ≠ b → w2.heap[j]? = w.heap[j]? := fun j hj => by rw [hw2]; simp [Array.getElem?_setIfInBounds, Ne.symm hj]
      have hnew : w2.heap[b]? = some (.map (vs.push { key := a.eval k, val := a.eval v, born := vs.size }) (vs.size + 1)) := by
       rw [hw2]; simp [Array.getElem?_setIfInBounds, hblt]
      have hSb : ∀ j, S j → j ≠ b := fun j hj e => hR.mem.apart n _ b hb hh (e ▸ hj)
      have hRd : ∀ {t : Ty} {us : List Value} {x : t.den}, Rd w S t us x → Rd w2 S t us x := fun h => Rd.mono (fun _ x => x) (fun j hj => hoth j (hSb j hj)) _ _ _ h
      have hmem := hR.mem.write (w' := w2) hb hh (by rw [hw2]; simp) hoth (by rw [hw2]) (by rw [hw2]) (by rw [hw2]) (B' := .mp kt' et' (es ++ [(dk, dv)]))
       ⟨b, vs.push { key := a.eval k, val := a.eval v, born := vs.size }, rfl, hρ, by rw [hnew, Array.size_push], by
        rw [Array.toList_push]
        exact (hents.imp fun _ _ ⟨p1, p2⟩ => ⟨hRd p1, hRd p2⟩).append ⟨⟨hRd hkr, hRd hvr⟩, trivial⟩, by
        rw [Array.toList_push, List.map_append, hborn, List.length_append]
        simp [List.range_succ]⟩
      have hmore : More w w2 S S ρ ρ := ⟨fun _ x => x, fun j hj => hoth j (hSb j hj), fun _ _ x => x⟩
      exact ⟨undef, w2, S, ρ, H, .inr ⟨by simp [execOp, ho, hrun], rfl⟩, hR.of_mem (st' := st.sets _) hmem hmore (sets_tmp _ _), rfl, hmore⟩
     ·exact (rfl0 h).elim
    ·exact (rfl0 h).elim
   ·exact (rfl0 h).elim
  ·exact (rfl0 h).elim
 ·exact (rfl0 h).elim
theorem storeFld_does {t : TypeId} {y z : Operand} (ho : o.op = .store t y z) {e : Ty} {n : Nat} {i : Int} {off : Nat} {zv : TV} (h : (storeFld P t e n i off zv).run st lg = some (.out x, lg')) (hR : Rep X w S ρ H N st a)
  (hy : RepTV w S ρ (.fldOf e n i off) (a.eval y)) (hz : RepTV w S ρ zv (a.eval z)) : Does P X N st a w S ρ (execOp a.eval o) x := by
 unfold storeFld at h
 replace h := rbs h
 obtain ⟨B, lg4, h4, h⟩ := h
 have hb := run_rB h4
 simp only at h hz hb
 split at h
 ·rename_i xx u xs
  split at h
  ·rename_i inf hi
   split at h
   ·rename_i e'; subst e'
    split at h
    ·rename_i hsz1
     split at h
     ·rename_i cs hcs
      replace h := rbs h
      obtain ⟨⟨d, wr, rest⟩, lg5, h5, h⟩ := h
      obtain ⟨hts, l1, e1, n1, hrd⟩ := asm_spec _ h5 hR.mem
      simp only at h hts e1 hrd
      split at h
      ·split at h
       ·rename_i hap
        have := run_pure' h; simp at this; obtain ⟨rfl, _⟩ := this
        have e1 : l1 = cs := by simpa using e1.symm
        subst e1
        obtain ⟨hfit, hcse⟩ := putCells_some hcs
        obtain ⟨S1, H1, hm1, hmore1, hset1⟩ := settle_all wr hR.mem hts.all
        have hnw : n ∉ wr.map (·.1) := apartL_spec hap n (by simp)
        have hn1 : (st.sets wr).blk n = some (some (.own u true xs)) := by
         rw [sets_other]
         ·exact hb
         ·intro p hp e; exact hnw (List.mem_map.2 ⟨p, hp, e⟩)
        obtain ⟨h0, b, boff, len, cap, hp, hlt, hpv⟩ := hy
        obtain ⟨v', h2, h3⟩ := hR.mem.rep n _ hb
        rw [hp] at h2; cases h2
        rcases h3 with ⟨b0, hh0, len', cap', vs, el, k1, k2, k3, k4, k5, k6⟩ | ⟨hf, _⟩
        ·simp at k1
         obtain ⟨⟨rfl, rfl⟩, rfl, rfl⟩ := k1
         have hh : H1 n = some b := by
          obtain ⟨v1, q1, q2⟩ := hm1.rep n _ hn1
          rw [hp] at q1; cases q1
          rcases q2 with ⟨b1, hb1, q2⟩ | ⟨hf, _⟩
          ·obtain ⟨_, _, _, _, q3, _⟩ := q2
           simp at q3; rw [hb1, q3.1]
          ·simp at hf
         have hlt' : i.toNat < xs.length := by omega
         have hel : elem u xs i = xs[i.toNat] := by simp [elem, List.getD_eq_getElem?_getD, List.getElem?_eq_getElem hlt']
         -- the old element's cells, and the new ones
         obtain ⟨us, ⟨c, e2, fr, q1, q2, q3⟩, q4⟩ := k6 i.toNat hlt'
         rw [k4] at q1; simp at q1; obtain ⟨rfl, rfl, rfl⟩ := q1
         have hzc := RepVV.cells hz
         have hold := flat_rep (ρ := ρ) u us xs[i.toNat] q4
         rw [← hel] at hold
         have hnewc := putCells_rep hcs hold hzc
         have hul := hold.length
         have husl : us.length = u.size := by rw [q3]; simp; omega
         have hzl : (a.eval z).cells.toList.length = inf.size := by rw [← hzc.length, hsz1]
         have hflat : (flat u (elem u xs i)).length = u.size := by rw [hul, husl]
         have hle : (i.toNat + 1) * u.size ≤ cap * u.size := Nat.mul_le_mul_right _ (by omega)
         rw [Nat.add_mul, Nat.one_mul] at hle
         have hoff : off + inf.size ≤ u.size := by rw [← hflat, ← hsz1]; exact hfit
         have hst := storeVar_box (P := P) hi hz hsz1 k4 (off := i.toNat * u.size + off) (by rw [hsz1, k5]; omega)
         have hvl : vs.toList.length = cap * u.size := by simpa using k5
         obtain ⟨w2, hw2⟩ : ∃ w2, w2 = w.setRow b (vs.toList.take (i.toNat * u.size + off) ++ (a.eval z).cells.toList ++ vs.toList.drop (i.toNat * u.size + off + (a.eval z).cells.toList.length)).toArray := ⟨_, rfl⟩
         have hnew : w2.heap[b]? = some (.cells (vs.toList.take (i.toNat * u.size + off) ++ (a.eval z).cells.toList ++ vs.toList.drop (i.toNat * u.size + off + (a.eval z).cells.toList.length)).toArray el (0, 0)) := by rw [hw2]; exact setRow_heap w b _ _ el _ k4
         rw [← hw2] at hst
         have hoth : ∀ k, k ≠ b → w2.heap[k]? = w.heap[k]? := fun k hk => by rw [hw2]; exact setRow_other w b k _ hk
         -- the same as a whole element
         have hwhole : vs.toList.take (i.toNat * u.size + off) ++ (a.eval z).cells.toList ++ vs.toList.drop (i.toNat * u.size + off + (a.eval z).cells.toList.length) =
           vs.toList.take (i.toNat * u.size) ++ (us.take off ++ (a.eval z).cells.toList ++ us.drop (off + (a.eval z).cells.toList.length)) ++ vs.toList.drop (i.toNat * u.size + u.size) := by
          rw [q3, hzl]
          have t1 : vs.toList.take (i.toNat * u.size + off) = vs.toList.take (i.toNat * u.size) ++ ((vs.toList.drop (i.toNat * u.size)).take u.size).take off := by
           rw [List.take_take, Nat.min_eq_left (by omega), List.take_add]
          have t2 : vs.toList.drop (i.toNat * u.size + off + inf.size) = ((vs.toList.drop (i.toNat * u.size)).take u.size).drop (off + inf.size) ++ vs.toList.drop (i.toNat * u.size + u.size) := by
           rw [List.drop_take, List.drop_drop]
           have e3 : vs.toList.drop (i.toNat * u.size + u.size) = (vs.toList.drop (i.toNat * u.size + (off + inf.size))).drop (u.size - (off + inf.size)) := by
            rw [List.drop_drop]; congr 1; omega
           rw [e3, List.take_append_drop]; congr 1; omega
          rw [t1, t2]
          simp only [List.append_assoc]
         have hSb : ∀ k, S1 k → k ≠ b := fun k hk e => hm1.apart n _ b hn1 hh (e ▸ hk)
         have hul2 : (us.take off ++ (a.eval z).cells.toList ++ us.drop (off + (a.eval z).cells.toList.length)).length = u.size := by
          simp only [List.length_append, List.length_take, List.length_drop, hzl, husl]; omega
         have hrdz := hrd hmore1.s hset1 hnewc.2
         rw [hwhole] at hnew
         have hsize : (vs.toList.take (i.toNat * u.size) ++ (us.take off ++ (a.eval z).cells.toList ++ us.drop (off + (a.eval z).cells.toList.length)) ++ vs.toList.drop (i.toNat * u.size + u.size)).toArray.size = cap * u.size := by
          rw [List.size_toArray, List.length_append, List.length_append, hul2, List.length_take, List.length_drop, hvl]; omega
         have hmem := hm1.write (w' := w2) hn1 hh (by rw [hw2]; simp) hoth (by rw [hw2]; rfl) (by rw [hw2]; rfl) (by rw [hw2]; rfl) (B' := .own u true ((xs : List u.den).set i.toNat d)) (by
          refine ⟨_, hp, .inl ⟨b, rfl, len, cap, _, el, rfl, by rw [List.length_set]; exact k2, k3, hnew, hsize, ?_⟩⟩
          intro j hj
          have hj' : j < xs.length := by simpa using hj
          have hjc : (j + 1) * u.size ≤ cap * u.size := Nat.mul_le_mul_right _ (by omega)
          rw [Nat.add_mul, Nat.one_mul] at hjc
          refine ⟨_, ⟨_, el, (0, 0), hnew, by rw [hsize]; omega, rfl⟩, ?_⟩
          simp only
          have hdrop : vs.toList.drop (i.toNat * u.size + u.size) = vs.toList.drop (i.toNat * u.size + (us.take off ++ (a.eval z).cells.toList ++ us.drop (off + (a.eval z).cells.toList.length)).length) := by rw [hul2]
          rw [hdrop]
          by_cases e : j = i.toNat
          ·subst e
           rw [splice_same hul2 (by rw [hvl]; exact hle)]
           simp only [List.getElem_set_self]
           exact Rd.mono (fun _ x => x) (fun k hk => hoth k (hSb k hk)) _ _ _ hrdz
          ·rw [splice_other hul2 (by rw [hvl]; exact hle) e (by rw [hvl]; exact hjc)]
           rw [List.getElem_set_ne (fun h => e h.symm)]
           obtain ⟨us', ⟨c, e2, fr, p1, p2, p3⟩, p4⟩ := k6 j hj'
           rw [k4] at p1
           simp at p1
           obtain ⟨rfl, rfl, rfl⟩ := p1
           rw [← p3]
           exact Rd.mono hmore1.s (fun k hk => hoth k (hSb k (hmore1.s k hk))) _ _ _ p4)
         have hmore : More w w2 S1 S1 ρ ρ := ⟨fun _ x => x, fun k hk => hoth k (hSb k hk), fun _ _ x => x⟩
         have hM := hmore1.trans hmore
         refine ⟨undef, w2, S1, ρ, H1, .inr ⟨by simp [execOp, ho, Instr.storeAt, Instr.sureAddr, hpv, hst], rfl⟩, hR.of_mem (st' := st.sets _) ?_ hM (sets_tmp _ _), rfl, hM⟩
         rw [sets_append]
         exact hmem
        ·simp at hf
       ·exact (rfl0 h).elim
      ·exact (rfl0 h).elim
     ·exact (rfl0 h).elim
    ·exact (rfl0 h).elim
   ·exact (rfl0 h).elim
  ·exact (rfl0 h).elim
 ·exact (rfl0 h).elim
theorem storeArr_does {t : TypeId} {y z : Operand} (ho : o.op = .store t y z) {n m : Nat} {zv : TV} (h : (storeArr P t n m zv).run st lg = some (.out x, lg')) (hR : Rep X w S ρ H N st a)
  (hy : RepTV w S ρ (.v (.one (.arr n m))) (a.eval y)) (hz : RepTV w S ρ zv (a.eval z)) : Does P X N st a w S ρ (execOp a.eval o) x := by
 unfold storeArr at h
 split at h
 ·rename_i m' u har
  split at h
  ·rename_i hmm; subst hmm
   replace h := rbs h
   obtain ⟨B, lg4, h4, h⟩ := h
   have hb := run_rB h4
   simp only at h hz hb
   split at h
   ·rename_i xx u' xs
    split at h
    ·rename_i inf hi
     split at h
     ·rename_i e; subst e
      split at h
      ·rename_i hsz
       simp only [Bool.and_eq_true, decide_eq_true_eq, beq_iff_eq] at hsz
       obtain ⟨hsz1, hsz2⟩ := hsz
       replace h := rbs h
       obtain ⟨⟨ys, wr⟩, lg5, h5, h⟩ := h
       obtain ⟨hts, hlen, hrd⟩ := asmRows_spec h5 hR.mem
       simp only at h hts hlen hrd
       split at h
       ·rename_i hap
        have := run_pure' h; simp at this; obtain ⟨rfl, _⟩ := this
        obtain ⟨S1, H1, hm1, hmore1, hset1⟩ := settle_all wr hR.mem hts.all
        have hnw : n ∉ wr.map (·.1) := apartL_spec hap n (by simp)
        have hn1 : (st.sets wr).blk n = some (some (.own u' true xs)) := by
         rw [sets_other]
         ·exact hb
         ·intro p hp e; exact hnw (List.mem_map.2 ⟨p, hp, e⟩)
        obtain ⟨b, hp, hpv⟩ := hy
        obtain ⟨v', h2, h3⟩ := hm1.rep n _ hn1
        rw [hp] at h2; cases h2
        rcases h3 with ⟨b', hh, len, cap, vs, el, k1, k2, k3, k4, k5, k6⟩ | ⟨hf, _⟩
        ·simp at k1
         obtain ⟨rfl, rfl, rfl⟩ := k1
         have hzc := RepVV.cells hz
         have hul : (a.eval z).cells.toList.length = m' * u'.size := by rw [← hzc.length, hsz1, hsz2]
         have hst := storeVar_box (P := P) hi hz hsz1 k4 (off := 0) (by rw [hsz1, hsz2, k5]; omega)
         have hvl : vs.toList.length = m' * u'.size := by simpa using k5
         rw [List.take_zero, List.nil_append, Nat.zero_add, hul, List.drop_eq_nil_of_le (by rw [hvl]; exact Nat.le_refl _), List.append_nil] at hst
         obtain ⟨w2, hw2⟩ : ∃ w2, w2 = w.setRow b ((a.eval z).cells.toList).toArray := ⟨_, rfl⟩
         rw [← hw2] at hst
         have hoth : ∀ k, k ≠ b → w2.heap[k]? = w.heap[k]? := fun k hk => by rw [hw2]; exact setRow_other w b k _ hk
         have hnew : w2.heap[b]? = some (.cells ((a.eval z).cells.toList).toArray el (0, 0)) := by rw [hw2]; exact setRow_heap w b _ _ el _ k4
         have hSb : ∀ k, S1 k → k ≠ b := fun k hk e => hm1.apart n _ b hn1 hh (e ▸ hk)
         have hrows := (hrd hmore1.s hset1 hzc).mono (fun _ x => x) (fun k hk => hoth k (hSb k hk))
         have hmem := hm1.write (w' := w2) hn1 hh (by rw [hw2]; simp) hoth (by rw [hw2]; rfl) (by rw [hw2]; rfl) (by rw [hw2]; rfl) (B' := .own u' true ys) (by
          refine ⟨_, hp, .inl ⟨b, rfl, ?_⟩⟩
          have := rows_rowOwn (w := w2) (S := S1) (t := u') (xs := ys) (b := b) (cap := m') (by rw [hlen]; exact Nat.le_refl _) hnew (by rw [List.size_toArray, hul]) (by
           simp only
           rw [List.take_of_length_le (by rw [hlen, hul]; exact Nat.le_refl _)]
           exact hrows)
          rw [hlen] at this; exact this)
         have hmore : More w w2 S1 S1 ρ ρ := ⟨fun _ x => x, fun k hk => hoth k (hSb k hk), fun _ _ x => x⟩
         have hM := hmore1.trans hmore
         refine ⟨undef, w2, S1, ρ, H1, .inr ⟨by simp [execOp, ho, Instr.storeAt, Instr.sureAddr, hpv, hst], rfl⟩, hR.of_mem (st' := st.sets _) ?_ hM (sets_tmp _ _), rfl, hM⟩
         rw [sets_append]
         exact hmem
        ·simp at hf
       ·exact (rfl0 h).elim
      ·exact (rfl0 h).elim
     ·exact (rfl0 h).elim
    ·exact (rfl0 h).elim
   ·exact (rfl0 h).elim
  ·exact (rfl0 h).elim
 ·exact (rfl0 h).elim
theorem does_store {t : TypeId} {y z : Operand} (ho : o.op = .store t y z) (h : (opA P sg fresh o).run st lg = some (.out x, lg')) (hR : Rep X w S ρ H N st a) : Does P X N st a w S ρ (execOp a.eval o) x := by
 simp only [opA, ho] at h
 obtain ⟨yv, lg1, h1, h⟩ := rbs h
 have hy := opd_rep hR h1
 simp only at h hy
 split at h
 ·obtain ⟨zv, lg3, h3, h⟩ := rbs h
  exact storeBox_does ho h hR hy (opd_rep hR h3)
 ·obtain ⟨zv, lg3, h3, h⟩ := rbs h
  exact storeRow_does ho h hR hy (opd_rep hR h3)
 ·obtain ⟨zv, lg3, h3, h⟩ := rbs h
  exact storeFld_does ho h hR hy (opd_rep hR h3)
 ·obtain ⟨zv, lg3, h3, h⟩ := rbs h
  exact storeArr_does ho h hR hy (opd_rep hR h3)
 ·exact (rfl0 h).elim
end
end Go.Proofs.YtijjlpgcpdapnaaGreatDoor.Aev
