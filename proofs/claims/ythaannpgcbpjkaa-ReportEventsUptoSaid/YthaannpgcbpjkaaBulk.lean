
/- What is read is no greater than the reading's bulk. -/
import Derived.Test.YthaannpgcbpjkaaAevX
import Derived.Test.YthaannpgcbpjkaaRows
namespace Go.Proofs.Ythaannpgcbpjkaa.Aev
set_option linter.unusedVariables false
set_option linter.unusedSimpArgs false
open Go Go.RowKit
/-- how many letters, and elements, a datum holds -/
def bk : (t : Ty) → t.den → Nat
  | .unit, _ => 0
  | .bool, _ => 0
  | .int _, _ => 0
  | .str, x => ByteArray.size x
  | .flt, _ => 0
  | .pair a b, x => bk a x.1 + bk b x.2
  | .sl e, xs => ((xs : List e.den).map fun x => bk e x + 1).sum
section
variable {H : Type} {enc : TypeId × Value → H} {P : Program} {w : World}
theorem bk_all {e : Ty} : ∀ (xs : List e.den) (ds : List (DataW H)), xs.length = ds.length → (∀ (i : Nat) (h : i < xs.length) (h' : i < ds.length), bk e xs[i] + 1 ≤ Rows.uptoBulk ds[i]) → (xs.map fun x => bk e x + 1).sum ≤ Rows.uptoBulkAll ds
  | [], ds, _, _ => by simp
  | x :: xs, [], h, _ => by simp at h
  | x :: xs, d :: ds, h, hh => by
    have h0 := hh 0 (by simp) (by simp)
    have h1 := bk_all xs ds (by simpa using h) (fun i a b => hh (i + 1) (by simp; omega) (by simp; omega))
    simp only [List.getElem_cons_zero] at h0
    simp only [List.map_cons, List.sum_cons, Rows.uptoBulkAll]
    omega
theorem rdb_fields {d : Nat} {lay : TypeId → Bool} {cs : List Value} : ∀ (fs : List Field) (ds : List (DataW H)) (off : Nat) (T : Ty), ds.length = fs.length →
    fs.foldr (fun f r => match tyOf P d f.type, r with | some a, some b => some (Ty.pair a b) | _, _ => none) (some .unit) = some T → layFs P lay d off fs = some cs.length →
    (∀ (i : Nat) (h : i < fs.length) (h' : i < ds.length), ∀ T, tyOf P d fs[i].type = some T → lay fs[i].type = true → ∃ x : T.den, Rd w (Sz w) T ((cs.drop fs[i].offset).take (P.cellsOf fs[i].type)) x ∧ Fit T x ∧ bk T x + 1 ≤ Rows.uptoBulk ds[i]) →
    ∃ x : T.den, Rd w (Sz w) T (cs.drop off) x ∧ Fit T x ∧ bk T x ≤ Rows.uptoBulkAll ds
  | [], ds, off, T, _, h, hl, _ => by
    simp at h; subst h
    simp [layFs] at hl
    exact ⟨(), by simp [Rd, hl], trivial, by simp [bk]⟩
  | f :: fs, [], off, T, hd, h, hl, hh => by simp at hd
  | f :: fs, dd :: ds, off, T, hd, h, hl, hh => by
    simp only [List.foldr_cons] at h
    split at h
    · rename_i a b ha hb
      simp at h; subst h
      unfold layFs at hl
      split at hl
      · rename_i hc
        obtain ⟨h1, h2, h3⟩ := hc
        obtain ⟨x, hx, fx, bx⟩ := hh 0 (by simp) (by simp) a ha h2
        obtain ⟨y, hy, fy, bY⟩ := rdb_fields fs ds _ b (by simpa using hd) hb hl (fun i q q' => hh (i + 1) (by simp; omega) (by simp; omega))
        refine ⟨(x, y), ⟨_, _, ?_, hx, hy⟩, ⟨fx, fy⟩, ?_⟩
        · simp only [List.getElem_cons_zero]
          rw [h1, ← List.drop_drop, List.take_append_drop]
        · simp only [List.getElem_cons_zero] at bx
          simp only [bk, Rows.uptoBulkAll]
          omega
      · simp at hl
    · simp at h
theorem rdb_array {e : Ty} {c : Nat} {cs : List Value} : ∀ (n : Nat) (ds : List (DataW H)) (off : Nat), ds.length = n → off + n * c = cs.length →
    (∀ i, i < n → ∀ (h' : i < ds.length), ∃ x : e.den, Rd w (Sz w) e ((cs.drop (off + i * c)).take c) x ∧ Fit e x ∧ bk e x + 1 ≤ Rows.uptoBulk ds[i]) →
    ∃ x : ((List.replicate n e).foldr Ty.pair .unit).den, Rd w (Sz w) ((List.replicate n e).foldr Ty.pair .unit) (cs.drop off) x ∧ Fit _ x ∧ bk _ x ≤ Rows.uptoBulkAll ds
  | 0, ds, off, _, h, _ => ⟨(), by simp [Rd]; omega, trivial, by simp [bk]⟩
  | n + 1, [], off, hd, h, hh => by simp at hd
  | n + 1, dd :: ds, off, hd, h, hh => by
    rw [Nat.succ_mul] at h
    obtain ⟨x, hx, fx, bx⟩ := hh 0 (by omega) (by simp)
    obtain ⟨y, hy, fy, bY⟩ := rdb_array (e := e) (c := c) (cs := cs) n ds (off + c) (by simpa using hd) (by omega) (fun i hi h' => by
      have := hh (i + 1) (by omega) (by simp; omega)
      rw [Nat.succ_mul] at this
      rwa [show off + c + i * c = off + (i * c + c) by omega])
    refine ⟨(x, y), ⟨_, _, ?_, hx, hy⟩, ⟨fx, fy⟩, ?_⟩
    · simp only [Nat.zero_mul, Nat.add_zero]
      rw [← List.drop_drop, List.take_append_drop]
    · simp only [List.getElem_cons_zero] at bx
      show bk e x + bk _ y ≤ _
      simp only [Rows.uptoBulkAll]
      omega
theorem rdb_of_trod : ∀ (d : Nat) (t : TypeId) (T : Ty), tyOf P d t = some T → layT P d t = true → ∀ (fuel : Nat) (cs : List Value) (x : DataW H × List MemPlace),
    DataW.trod enc P w 0 (fun _ => true) true fuel t cs = some x → ∃ y : T.den, Rd w (Sz w) T cs y ∧ Fit T y ∧ bk T y + 1 ≤ Rows.uptoBulk x.1
  | 0, t, T, h, _, _, _, _, _ => by simp [tyOf] at h
  | d + 1, t, T, h, hl, fuel, cs, x, ht => by
    have ih := rdb_of_trod d
    unfold tyOf at h
    split at h
    · rename_i hu
      simp at h; subst h
      obtain ⟨b, rfl, rfl⟩ := DataW.trod_bool hu ht
      exact ⟨b, rfl, trivial, by simp [bk, Rows.uptoBulk]⟩
    · rename_i k hu
      simp at h; subst h
      obtain ⟨n, rfl, rfl, hw⟩ := DataW.trod_int hu ht
      exact ⟨n, rfl, by simpa [Lit.wf, Fit] using hw, by simp [bk, Rows.uptoBulk]⟩
    · rename_i hu
      simp at h; subst h
      obtain ⟨s, rfl, rfl, hw⟩ := DataW.trod_string hu ht
      exact ⟨s, rfl, hw, by
        simp only [bk, Rows.uptoBulk, Array.length_toList]
        exact Nat.le_refl _⟩
    · rename_i hu
      simp at h; subst h
      cases fuel with
      | zero => simp [DataW.trod] at ht
      | succ n =>
        unfold DataW.trod at ht
        rw [hu] at ht
        split at ht <;> first | (exfalso; simp_all; done) | skip
        rename_i k' k b e1
        split at ht
        · rename_i hc
          obtain ⟨hk, hw⟩ := hc
          cases e1
          subst hk
          refine ⟨b, rfl, by simpa [Lit.wf, Fit] using hw, ?_⟩
          have : ∀ d : DataW H, 1 ≤ Rows.uptoBulk d := fun d => by cases d <;> (try (rename_i l; cases l)) <;> simp [Rows.uptoBulk]
          simpa [bk] using this x.1
        · simp at ht
    · rename_i e hu
      simp only [Option.map_eq_some_iff] at h
      obtain ⟨E, hE, rfl⟩ := h
      unfold layT at hl
      rw [hu] at hl
      simp only [Bool.and_eq_true, decide_eq_true_eq, szOk, hE, Option.map_some, beq_iff_eq, Option.some.injEq] at hl
      obtain ⟨⟨hl1, hl2⟩, hl3⟩ := hl
      rcases DataW.trod_slice hu ht with ⟨rfl, _⟩ | ⟨a, len, cap, elems, rest, n, rfl, rfl, rfl, _, hlc, hcap, hlen, hel, hre, _⟩
      · exact ⟨[], ⟨none, 0, 0, rfl, rfl, Nat.le_refl _, fun a h => by simp at h, fun _ => rfl, fun h => absurd rfl h⟩, by simp [Fit], by
          have : ∀ d : DataW H, 1 ≤ Rows.uptoBulk d := fun d => by cases d <;> (try (rename_i l; cases l)) <;> simp [Rows.uptoBulk]
          simpa [bk] using this _⟩
      · have hcell : ∀ i (hi : i < elems.length), ∃ us, w.cells? 0 (a.add (i * P.cellsOf e)) (P.cellsOf e) = some us ∧ DataW.trod enc P w 0 (fun _ => true) true n e us = some elems[i] := by
          intro i hi
          have hi' : i < len := by omega
          have hi := hi' 
          have := hel i hi
          rw [List.getElem?_eq_getElem (by omega)] at this
          obtain ⟨us, h1, h2⟩ := Option.bind_eq_some_iff.1 this
          exact ⟨us, h1, h2⟩
        obtain ⟨xs, hx1, hx2⟩ := exists_list (α := E.den) (Q := fun i y => (Fit E y ∧ ∀ h : i < elems.length, bk E y + 1 ≤ Rows.uptoBulk elems[i].1) ∧ (a.spot = none ∧ ∃ us, cellsAt w a.block (a.off + i * E.size) E.size us ∧ Rd w (Sz w) E us y)) len (fun i hi => by
          obtain ⟨us, h1, h2⟩ := hcell i (by omega)
          obtain ⟨z, hz, fz, bz⟩ := ih e E hE hl1 _ _ _ h2
          obtain ⟨h3, h4⟩ := cellsAt_of_cells? h1 hl3
          have hsp : a.spot = none := by
            obtain ⟨us0, h10, _⟩ := hcell 0 (by omega)
            obtain ⟨h30, _⟩ := cellsAt_of_cells? h10 hl3
            simpa [Addr.add] using h30
          refine ⟨z, ⟨fz, fun _ => bz⟩, hsp, us, ?_, hz⟩
          have ea : a = ⟨a.block, a.off, none⟩ := by cases a; simp at hsp; simp [hsp]
          rw [ea, addr_add] at h4
          rw [hl2]; exact h4)
        refine ⟨xs, ⟨some a, len, cap, rfl, hx1.symm, hlc, ?_, fun h => by simp at h, ?_⟩, ⟨?_, ?_⟩, ?_⟩
        · intro a' ha' hc
          simp at ha'; subst ha'
          rcases Nat.eq_zero_or_pos len with h0 | h0
          · subst h0
            obtain ⟨hr1, hr2⟩ := hre rfl
            have := hr2 0 (by omega)
            rw [List.getElem?_eq_getElem (by omega)] at this
            obtain ⟨us, h1, h2⟩ := Option.bind_eq_some_iff.1 this
            obtain ⟨h3, _⟩ := cellsAt_of_cells? h1 hl3
            simpa [Addr.add] using h3
          · exact (hx2 0 (by omega)).2.1
        · intro hne
          have h0 : 0 < xs.length := List.length_pos_iff.2 hne
          refine ⟨a, rfl, ?_, fun i hi => (hx2 i hi).2.2⟩
          obtain ⟨_, _, us, hc, _⟩ := hx2 0 h0
          exact hc.lt
        · show xs.length ≤ maxLen
          omega
        · intro y hy
          obtain ⟨i, hi, rfl⟩ := List.getElem_of_mem hy
          exact (hx2 i hi).1.1
        · have := bk_all (e := E) xs (elems.map (·.1)) (by simp; omega) (fun i hi hi' => by
            have := (hx2 i hi).1.2 (by omega)
            simpa using this)
          simp only [bk, Rows.uptoBulk]
          omega
    · rename_i fs hu
      unfold layT at hl
      rw [hu] at hl
      simp only [beq_iff_eq] at hl
      obtain ⟨xs, n, rfl, rfl, hcl, hxl, hf⟩ := DataW.trod_struct hu ht
      have := rdb_fields (w := w) (cs := cs) (P := P) fs.toList (xs.map (·.1)) 0 T (by simpa using hxl) h (by rw [hl, hcl]) (fun i hi hi' T' hT hlay => by
        simp at hi
        have h1 := hf i fs[i] (by simp [hi])
        rw [List.getElem?_eq_getElem (by omega)] at h1
        simp only [Array.getElem_toList] at hT hlay ⊢
        have := ih _ T' hT hlay _ _ _ h1
        simpa using this)
      obtain ⟨y, h1, h2, h3⟩ := this
      refine ⟨y, by simpa using h1, h2, ?_⟩
      simp only [Rows.uptoBulk]
      omega
    · rename_i n e hu
      simp only [Option.map_eq_some_iff] at h
      obtain ⟨E, hE, rfl⟩ := h
      unfold layT at hl
      rw [hu] at hl
      simp only [Bool.and_eq_true, szOk, hE, Option.map_some, beq_iff_eq, Option.some.injEq] at hl
      obtain ⟨⟨hl1, hl2⟩, hl3⟩ := hl
      obtain ⟨xs, m, rfl, rfl, hcl, hxl, hf⟩ := DataW.trod_array hu ht
      have := rdb_array (w := w) (e := E) (c := P.cellsOf e) (cs := cs) n (xs.map (·.1)) 0 (by simpa using hxl) (by omega) (fun i hi hi' => by
        have h1 := hf i hi
        rw [List.getElem?_eq_getElem (by omega)] at h1
        simp only [Nat.zero_add]
        have := ih e E hE hl1 _ _ _ h1
        simpa using this)
      obtain ⟨y, h1, h2, h3⟩ := this
      refine ⟨y, by simpa using h1, h2, ?_⟩
      simp only [Rows.uptoBulk]
      omega
    · simp at h
/-- One that is a struct. -/
theorem argb_agg {t : TypeId} {v : Value} {d : DataW H} {ps : List MemPlace} {r : Reach} {b : Nat} (h : DataW.Trod enc P w 0 (fun _ => true) true t v d ps) (hv : Value.okWide P w r b t v) (T : Ty) (hT : tyOf P tyD t = some T) (hl : layT P tyD t = true)
    (hu : (match P.underlying t with | some (.struct _) | some (.array _ _) => true | _ => false) = true) : ∃ x : T.den, Fit T x ∧ RepTV w (Sz w) (fun _ => none) (.v (.agg (flat T x))) v ∧ bk T x ≤ Rows.uptoBulk d := by
  obtain ⟨fuel, h⟩ := h
  obtain ⟨x, hx, fx, bx⟩ := rdb_of_trod _ _ T hT hl _ _ _ h
  obtain ⟨cs, rfl⟩ : ∃ cs, v = .agg cs := by
    unfold Value.okWide at hv
    split at hv
    · obtain ⟨cs, e, _⟩ := hv; exact ⟨cs, e⟩
    · obtain ⟨cs, e, _⟩ := hv; exact ⟨cs, e⟩
    · rename_i h1 h2
      split at hu
      · rename_i hu'; exact (h1 _ hu').elim
      · rename_i hu'; exact (h2 _ _ hu').elim
      · simp at hu
  exact ⟨x, fx, ⟨cs, rfl, flat_rep T _ x hx⟩, Nat.le_trans (Nat.le_succ _) bx⟩
end
end Go.Proofs.Ythaannpgcbpjkaa.Aev
