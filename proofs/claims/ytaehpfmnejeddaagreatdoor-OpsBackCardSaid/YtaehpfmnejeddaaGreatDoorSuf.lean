import Derived.Test.YtaehpfmnejeddaaGreatDoorF9
import Derived.Test.YtaehpfmnejeddaaGreatDoorF12
import Derived.Test.YtaehpfmnejeddaaGreatDoorChRead

/- A change, read: the document's way. -/
namespace Go.Proofs.YtaehpfmnejeddaaGreatDoor.Aev
open Go
set_option linter.unusedVariables false
set_option linter.unusedSimpArgs false
set_option maxRecDepth 100000
end Go.Proofs.YtaehpfmnejeddaaGreatDoor.Aev

/- What is behind what is read is an end of the bytes. -/
namespace Go.Proofs.YtaehpfmnejeddaaGreatDoor.Aev
open Go
set_option linter.unusedVariables false
set_option linter.unusedSimpArgs false
set_option maxRecDepth 100000
theorem rdL_suf : ∀ (l : List UInt8) (i v : Nat), (rdL l i v).2.1 <:+ l
 | [], i, v => List.nil_suffix
 | c :: t, i, v => by
  unfold rdL
  split
  ·exact List.nil_suffix
  ·split
   ·exact (rdL_suf t _ _).trans (List.suffix_cons c t)
   ·split
    ·exact List.nil_suffix
    ·exact List.suffix_cons c t
theorem rdT_suf (l : List UInt8) : (rdT l).2.1 <:+ l := by
 unfold rdT
 split
 ·exact List.nil_suffix
 ·split
  ·exact List.nil_suffix
  ·exact (List.drop_suffix _ _).trans (rdL_suf l 0 0)
theorem plainS_suf : ∀ (n : Nat) (t : List UInt8), t.length ≤ n → (plainS t).2.1 <:+ t := by
 intro n
 induction n with
 | zero => intro t h; obtain rfl : t = [] := List.eq_nil_of_length_eq_zero (by omega); simp [plainS]
 | succ n ih =>
  intro t h
  cases t with
  | nil => simp [plainS]
  | cons c t =>
   have h' : t.length ≤ n := by simpa using h
   unfold plainS
   split
   ·split
    ·exact List.nil_suffix
    ·rename_i d r
     have hr := ih r (by simp at h'; omega)
     have h2 : r <:+ c :: d :: r := (List.suffix_cons d r).trans (List.suffix_cons c _)
     split
     ·exact h2
     ·split
      ·generalize plainS r = q at hr
       obtain ⟨x, y, e⟩ := q
       simp only at hr ⊢
       split
       ·exact hr.trans h2
       ·exact List.nil_suffix
      ·exact List.nil_suffix
   ·have ht := ih t h'
    generalize plainS t = q at ht
    obtain ⟨x, y, e⟩ := q
    simp only at ht ⊢
    split
    ·exact ht.trans (List.suffix_cons c t)
    ·exact List.nil_suffix
theorem kraw_suf (c : Int) (t : List UInt8) : (kraw c t).2.2.2.1 <:+ t := by
 unfold kraw
 have hp := plainS_suf t.length t (Nat.le_refl _)
 split
 ·split
  ·exact List.nil_suffix
  ·exact List.suffix_cons _ _
 ·split
  ·split
   ·exact List.nil_suffix
   ·exact List.drop_suffix _ _
  ·split
   ·split
    ·exact List.nil_suffix
    ·split
     ·exact List.drop_suffix _ _
     ·exact List.nil_suffix
   ·split
    ·exact hp
    ·exact List.suffix_refl t
theorem kread_suf (l : List UInt8) : (kread l).2.2.2.2.1 <:+ l := by
 cases l with
 | nil => exact List.nil_suffix
 | cons c t =>
  simp only [kread]
  split
  ·exact List.nil_suffix
  ·unfold kdone
   split
   ·exact List.nil_suffix
   ·split
    ·exact List.nil_suffix
    ·exact (kraw_suf _ t).trans (List.suffix_cons c t)
theorem colR_suf (l : List UInt8) : (colR l).2.1 <:+ l := by
 unfold colR
 split
 ·exact List.nil_suffix
 ·refine List.IsSuffix.trans ?_ (rdT_suf l)
  unfold colR2
  split
  ·exact List.nil_suffix
  ·split
   ·exact List.nil_suffix
   ·refine List.IsSuffix.trans ?_ (rdL_suf _ 0 0)
    generalize (rdL (rdT l).2.1 0 0).2.1 = r
    cases r with
    | nil => exact List.nil_suffix
    | cons b r =>
     simp only [colR3]
     split
     ·exact List.nil_suffix
     ·split
      ·exact List.nil_suffix
      ·exact (kread_suf r).trans (List.suffix_cons b r)
theorem colsR_suf : ∀ (n : Nat) (l : List UInt8), (colsR n l).2.1 <:+ l
 | 0, l => List.suffix_refl l
 | n + 1, l => by
  unfold colsR
  split
  ·exact List.nil_suffix
  ·exact (colsR_suf n _).trans (colR_suf l)
theorem tabR_suf (l : List UInt8) : ∃ r, (tabR l).2.2.2.1 = mL r ∧ r <:+ l := by
 unfold tabR
 split
 ·exact ⟨[], rfl, List.nil_suffix⟩
 ·split
  ·exact ⟨[], rfl, List.nil_suffix⟩
  ·split
   ·exact ⟨[], rfl, List.nil_suffix⟩
   ·split
    ·exact ⟨[], rfl, List.nil_suffix⟩
    ·split
     ·exact ⟨[], rfl, List.nil_suffix⟩
     ·unfold fin
      split
      ·exact ⟨[], rfl, List.nil_suffix⟩
      ·split
       ·exact ⟨[], rfl, List.nil_suffix⟩
       ·exact ⟨_, rfl, (colsR_suf _ _).trans ((rdL_suf _ 0 0).trans ((rdL_suf _ 0 0).trans (rdT_suf l)))⟩
theorem numS_suf (lo hi : Nat) (l : List UInt8) : (numS lo hi l).2.1 <:+ l := by
 unfold numS
 split
 ·exact List.nil_suffix
 ·split
  ·exact rdL_suf l 0 0
  ·exact rdL_suf l 0 0
theorem txR_suf : ∀ (m : Nat) (l : List UInt8), (txR m l).2.1 <:+ l
 | 0, l => List.suffix_refl l
 | m + 1, l => by
  unfold txR
  split
  ·exact List.nil_suffix
  ·exact (txR_suf m _).trans (rdT_suf l)
theorem finC_suf (l : List UInt8) (c : Ch) (r l' : List UInt8) (h : r <:+ l') : ∃ q, (finC l c r).2.1 = mL q ∧ q <:+ l' := by
 unfold finC
 split
 ·exact ⟨[], rfl, List.nil_suffix⟩
 ·exact ⟨r, rfl, h⟩
theorem tailC_suf (l : List UInt8) (kd : Int) (t1 t2 t3 t4 t5 : ByteArray) (ty : Int) (ns : List ByteArray) (r l' : List UInt8) (h : r <:+ l') : ∃ q, (tailC l kd t1 t2 t3 t4 t5 ty ns r).2.1 = mL q ∧ q <:+ l' := by
 obtain ⟨r', e, h'⟩ := tabR_suf r
 unfold tailC
 rw [e]
 split
 ·split
  ·exact ⟨[], rfl, List.nil_suffix⟩
  ·exact finC_suf _ _ _ _ (h'.trans h)
 ·split
  ·split
   ·exact ⟨[], rfl, List.nil_suffix⟩
   ·exact finC_suf _ _ _ _ (h'.trans h)
  ·exact finC_suf _ _ _ _ h
theorem rdC_suf (l : List UInt8) : ∃ q, (rdC l).2.1 = mL q ∧ q <:+ l := by
 unfold rdC
 split
 ·exact ⟨[], rfl, List.nil_suffix⟩
 ·split
  ·exact ⟨[], rfl, List.nil_suffix⟩
  ·split
   ·exact ⟨[], rfl, List.nil_suffix⟩
   ·split
    ·exact ⟨[], rfl, List.nil_suffix⟩
    ·split
     ·exact ⟨[], rfl, List.nil_suffix⟩
     ·exact tailC_suf _ _ _ _ _ _ _ _ _ _ _ ((txR_suf _ _).trans ((numS_suf _ _ _).trans ((numS_suf _ _ _).trans ((txR_suf _ _).trans (numS_suf _ _ l)))))
theorem few_fin {l : List UInt8} {c : Ch} {r : List UInt8} (hc : FewCh c) : FewCh (finC l c r).1 := by
 unfold finC
 split
 ·exact few_z 0 (mL []) (mL []) (mL []) (mL []) (mL []) 0 []
 ·exact hc
theorem few_tail (l : List UInt8) (kd : Int) (t1 t2 t3 t4 t5 : ByteArray) (ty : Int) (ns : List ByteArray) (r : List UInt8) : FewCh (tailC l kd t1 t2 t3 t4 t5 ty ns r).1 := by
 have hz : ∀ e, FewCh (badC e).1 := fun e => few_z 0 (mL []) (mL []) (mL []) (mL []) (mL []) 0 []
 unfold tailC
 split
 ·split
  ·exact hz _
  ·rename_i h
   obtain ⟨g1, g2, _⟩ := tabR_ok (l := r) (by simpa using h)
   exact few_fin (few_1 kd t1 t2 t3 t4 t5 ty ns g1 g2)
 ·split
  ·split
   ·exact hz _
   ·rename_i h
    obtain ⟨g1, g2, _⟩ := tabR_ok (l := r) (by simpa using h)
    exact few_fin (few_2 kd t1 t2 t3 t4 t5 ty ns g1 g2)
  ·exact few_fin (few_z kd t1 t2 t3 t4 t5 ty ns)
theorem few_rd (l : List UInt8) : FewCh (rdC l).1 := by
 have hz : ∀ e, FewCh (badC e).1 := fun e => few_z 0 (mL []) (mL []) (mL []) (mL []) (mL []) 0 []
 unfold rdC
 split
 ·exact hz _
 ·split
  ·exact hz _
  ·split
   ·exact hz _
   ·split
    ·exact hz _
    ·split
     ·exact hz _
     ·exact few_tail _ _ _ _ _ _ _ _ _ _
end Go.Proofs.YtaehpfmnejeddaaGreatDoor.Aev
