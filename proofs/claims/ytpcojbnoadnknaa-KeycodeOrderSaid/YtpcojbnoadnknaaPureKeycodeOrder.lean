/- KeycodeOrder: of two rows of values that may be the one that comes first by its first unlike value has the lesser bytes; no value's bytes begin with another one's. For every input; no conditions. -/
import Derived.Test.YtpcojbnoadnknaaF3
import Derived.Test.YtpcojbnoadnknaaF11
import Derived.Test.YtpcojbnoadnknaaF13
import Derived.Test.YtpcojbnoadnknaaF16
import Derived.Test.YtpcojbnoadnknaaF17
import Derived.Test.YtpcojbnoadnknaaF18
import Derived.Test.YtpcojbnoadnknaaCmp
import Derived.Test.YtpcojbnoadnknaaKeyRow
import Derived.Test.YtpcojbnoadnknaaEscB
namespace Go.Proofs.Ytpcojbnoadnknaa.Aev
open Go
set_option linter.unusedVariables false
set_option linter.unusedSimpArgs false
set_option maxRecDepth 100000
/-- two texts part, and which one is less -/
def Dif (x y : List UInt8) (b : Prop) : Prop := ∃ p c d x' y', x = p ++ c :: x' ∧ y = p ++ d :: y' ∧ c ≠ d ∧ (b ↔ c < d)
theorem Dif.cons {x y : List UInt8} {b : Prop} (a : UInt8) (h : Dif x y b) : Dif (a :: x) (a :: y) b := by
  obtain ⟨p, c, d, x', y', rfl, rfl, h1, h2⟩ := h
  exact ⟨a :: p, c, d, x', y', rfl, rfl, h1, h2⟩
theorem Dif.head {x y : List UInt8} {c d : UInt8} (h : c ≠ d) : Dif (c :: x) (d :: y) (c < d) := ⟨[], c, d, x, y, rfl, rfl, h, Iff.rfl⟩
theorem Dif.iff {x y : List UInt8} {b b' : Prop} (h : Dif x y b) (e : b' ↔ b) : Dif x y b' := by
  obtain ⟨p, c, d, x', y', h0, h3, h1, h2⟩ := h
  exact ⟨p, c, d, x', y', h0, h3, h1, e.trans h2⟩
theorem less_same (p x y : List UInt8) : Op.bytesLess (p ++ x) (p ++ y) = Op.bytesLess x y := by
  induction p with
  | nil => rfl
  | cons c p ih =>
    have : ¬ c < c := by rw [UInt8.lt_iff_toNat_lt]; omega
    simp [Op.bytesLess, ih]
theorem Dif.less {x y : List UInt8} {b : Prop} (h : Dif x y b) (r q : List UInt8) : Op.bytesLess (x ++ r) (y ++ q) = true ↔ b := by
  obtain ⟨p, c, d, x', y', rfl, rfl, h1, h2⟩ := h
  rw [List.append_assoc, List.append_assoc, less_same, h2]
  simp [Op.bytesLess, h1]
theorem Dif.ne {x y : List UInt8} {b : Prop} (h : Dif x y b) (r q : List UInt8) : x ++ r ≠ y ++ q := by
  obtain ⟨p, c, d, x', y', rfl, rfl, h1, h2⟩ := h
  intro e
  rw [List.append_assoc, List.append_assoc] at e
  have := List.append_cancel_left e
  simp at this
  exact h1 this.1
theorem Dif.noPrefix {x y : List UInt8} {b : Prop} (h : Dif x y b) : y.take x.length ≠ x := by
  intro e
  have := h.ne (y.drop x.length) []
  apply this
  rw [List.append_nil]
  conv => lhs; rw [← e]
  rw [List.length_take]
  have : min x.length y.length = x.length := by have := congrArg List.length e; simp at this; omega
  rw [this]
  exact List.take_append_drop _ _
def fo (n : Nat) (l : List UInt8) : Nat := l.foldl (fun n c => n * 256 + c.toNat) n
theorem fo_lt : ∀ (l m : List UInt8), l.length = m.length → ∀ a b, a < b → fo a l < fo b m
  | [], [], _, a, b, h => h
  | c :: l, d :: m, e, a, b, h => by
    have hc := c.toNat_lt
    show fo (a * 256 + c.toNat) l < fo (b * 256 + d.toNat) m
    exact fo_lt l m (by simpa using e) _ _ (by omega)
  | [], _ :: _, e, _, _, _ => by simp at e
  | _ :: _, [], e, _, _, _ => by simp at e
theorem dif_fo : ∀ (l m : List UInt8), l.length = m.length → l ≠ m → ∀ n, Dif l m (fo n l < fo n m)
  | [], [], _, h, _ => absurd rfl h
  | [], _ :: _, e, _, _ => by simp at e
  | _ :: _, [], e, _, _ => by simp at e
  | c :: l, d :: m, e, h, n => by
    have e' : l.length = m.length := by simpa using e
    by_cases hcd : c = d
    · subst hcd
      exact (dif_fo l m e' (fun q => h (by rw [q])) (n * 256 + c.toNat)).cons c
    · refine (Dif.head hcd).iff ?_
      rw [UInt8.lt_iff_toNat_lt]
      constructor
      · intro hl
        rcases Nat.lt_trichotomy c.toNat d.toNat with g | g | g
        · exact g
        · exact absurd (UInt8.toNat_inj.1 g) hcd
        · have := fo_lt m l e'.symm (n * 256 + d.toNat) (n * 256 + c.toNat) (by omega)
          have hl' : fo (n * 256 + c.toNat) l < fo (n * 256 + d.toNat) m := hl
          omega
      · intro g
        exact fo_lt l m e' (n * 256 + c.toNat) (n * 256 + d.toNat) (by omega)
theorem dif_eight {m1 m2 : Nat} (h1 : m1 < 18446744073709551616) (h2 : m2 < 18446744073709551616) (h : m1 ≠ m2) : Dif ((eightI m1).map b8) ((eightI m2).map b8) (m1 < m2) := by
  refine (dif_fo ((eightI m1).map b8) ((eightI m2).map b8) rfl (fun e => h ?_) 0).iff ?_
  · rw [← numB_eight h1, ← numB_eight h2, e]
  · show _ ↔ numB _ < numB _
    rw [numB_eight h1, numB_eight h2]
theorem dif_esc : ∀ (s t : List UInt8), s ≠ t → Dif (escB s) (escB t) (Op.bytesLess s t = true)
  | [], [], h => absurd rfl h
  | [], d :: t, _ => by
    show Dif (0 :: [0]) (escB (d :: t)) _
    rw [escB]
    by_cases hd : d = 0
    · subst hd
      rw [if_pos rfl]
      refine Dif.cons 0 ((Dif.head (by decide)).iff ?_)
      simp [Op.bytesLess]
    · rw [if_neg hd]
      refine (Dif.head (fun e => hd e.symm)).iff ?_
      have : (0 : UInt8) < d := by
        rw [UInt8.lt_iff_toNat_lt]
        have : d.toNat ≠ 0 := fun e => hd (UInt8.toNat_inj.1 e)
        show 0 < d.toNat; omega
      simp [Op.bytesLess, this]
  | c :: s, [], _ => by
    show Dif (escB (c :: s)) (0 :: [0]) _
    rw [escB]
    by_cases hc : c = 0
    · subst hc
      rw [if_pos rfl]
      refine Dif.cons 0 ((Dif.head (by decide)).iff ?_)
      simp [Op.bytesLess]
    · rw [if_neg hc]
      refine (Dif.head hc).iff ?_
      have : ¬ c < (0 : UInt8) := by
        rw [UInt8.lt_iff_toNat_lt]; show ¬ c.toNat < 0; omega
      simp [Op.bytesLess, this]
  | c :: s, d :: t, h => by
    rw [escB, escB]
    by_cases hcd : c = d
    · subst hcd
      have hst : s ≠ t := fun e => h (by rw [e])
      have ih := dif_esc s t hst
      have hl : (Op.bytesLess (c :: s) (c :: t) = true) ↔ (Op.bytesLess s t = true) := by
        have : ¬ c < c := by rw [UInt8.lt_iff_toNat_lt]; omega
        simp [Op.bytesLess]
      by_cases hc : c = 0
      · rw [if_pos hc, if_pos hc]
        exact (((ih.cons 255).cons 0)).iff hl
      · rw [if_neg hc, if_neg hc]
        exact (ih.cons c).iff hl
    · have hl : (Op.bytesLess (c :: s) (d :: t) = true) ↔ c < d := by simp [Op.bytesLess, hcd]
      by_cases hc : c = 0
      · rw [if_pos hc, if_neg (fun e => hcd (hc.trans e.symm))]
        subst hc
        exact (Dif.head hcd).iff hl
      · rw [if_neg hc]
        by_cases hd : d = 0
        · rw [if_pos hd]
          subst hd
          exact (Dif.head hcd).iff hl
        · rw [if_neg hd]
          exact (Dif.head hcd).iff hl
theorem cmpI_neg {a b : Int} : cmpI a b < 0 ↔ a < b := by
  unfold cmpI; split
  · omega
  · split <;> omega
theorem cmpI_zero {a b : Int} : cmpI a b = 0 ↔ a = b := by
  unfold cmpI; split
  · omega
  · split <;> omega
theorem cmpU_neg {a b : Nat} : cmpU a b < 0 ↔ keyU a < keyU b := by
  unfold cmpU; split
  · omega
  · split <;> omega
theorem cmpU_zero {a b : Nat} : cmpU a b = 0 ↔ keyU a = keyU b := by
  unfold cmpU; split
  · omega
  · split <;> omega
theorem cmpB_zero {s t : List UInt8} : cmpB s t = 0 ↔ s = t := by
  unfold cmpB; split
  · simp_all
  · split <;> simp_all
theorem cmpB_neg {s t : List UInt8} : cmpB s t < 0 ↔ s ≠ t ∧ Op.bytesLess s t = true := by
  unfold cmpB; split
  · simp_all
  · split <;> simp_all
theorem keyU_inj {a b : Nat} (ha : a < 18446744073709551616) (hb : b < 18446744073709551616) (ca : canon a = a) (cb : canon b = b) : keyU a = keyU b ↔ a = b := by
  unfold keyU; rw [ca, cb]; split <;> split <;> omega
theorem vals_dif {a0 a1 b0 b1 : Int} {n m : Nat} {s t : List UInt8} (hn : n < 18446744073709551616) (hm : m < 18446744073709551616) (ha : -9223372036854775808 ≤ a1 ∧ a1 ≤ 9223372036854775807) (hb : -9223372036854775808 ≤ b1 ∧ b1 ≤ 9223372036854775807)
    (hc : checkS a0 a1 n (ByteArray.mk (List.toArray s)) = 0) (hd : checkS b0 b1 m (ByteArray.mk (List.toArray t)) = 0) :
    (cmpV a0 a1 n s b0 b1 m t = 0 ↔ (a0 = b0 ∧ a1 = b1 ∧ n = m ∧ s = t)) ∧ (¬ (a0 = b0 ∧ a1 = b1 ∧ n = m ∧ s = t) → Dif ((kputI a0 a1 n s).map b8) ((kputI b0 b1 m t).map b8) (cmpV a0 a1 n s b0 b1 m t < 0)) := by
  obtain ⟨⟨g0, g5⟩, ⟨f1, f2, f3⟩, gb, gc, gl, gv⟩ := check_0.1 hc
  obtain ⟨⟨k0, k5⟩, ⟨l1, l2, l3⟩, kb, kc, kl, kv⟩ := check_0.1 hd
  simp only [ba_data] at f3 l3
  have hb8 : ∀ x : Int, 0 ≤ x → x ≤ 5 → (b8 (x % 256)).toNat = x.toNat := by
    intro x h1 h2
    have : x % 256 = ((x.toNat : Nat) : Int) := by omega
    rw [this]; exact b8_nat _ (by omega)
  have hcons : ∀ (x0 x1 : Int) (p : Nat) (u : List UInt8), ∃ z, kputI x0 x1 p u = (x0 % 256) :: z := fun x0 x1 p u => ⟨_, rfl⟩
  by_cases e0 : a0 = b0
  · subst e0
    have zI : cmpI a0 a0 = 0 := cmpI_zero.2 rfl
    have zN : cmpI (0 : Int) 0 = 0 := rfl
    have zU : cmpU 0 0 = 0 := cmpU_zero.2 rfl
    have zB : cmpB [] [] = 0 := rfl
    have cases : a0 = 0 ∨ a0 = 1 ∨ a0 = 2 ∨ a0 = 3 ∨ a0 = 4 ∨ a0 = 5 := by omega
    rcases cases with e | e | e | e | e | e
    · obtain rfl : a1 = 0 := by omega
      obtain rfl : b1 = 0 := by omega
      obtain rfl : n = 0 := by omega
      obtain rfl : m = 0 := by omega
      obtain rfl : s = [] := by rcases f3 with h | h | h <;> first | exact h | omega
      obtain rfl : t = [] := by rcases l3 with h | h | h <;> first | exact h | omega
      refine ⟨?_, fun h => absurd ⟨rfl, rfl, rfl, rfl⟩ h⟩
      unfold cmpV; rw [zI, zN, zU, zB]; simp [or0]
    · obtain rfl : n = 0 := by omega
      obtain rfl : m = 0 := by omega
      obtain rfl : s = [] := by rcases f3 with h | h | h <;> first | exact h | omega
      obtain rfl : t = [] := by rcases l3 with h | h | h <;> first | exact h | omega
      have hv : cmpV a0 a1 0 [] a0 b1 0 [] = cmpI a1 b1 := by
        unfold cmpV; rw [zI, zU, zB]; unfold or0; simp
        intro h; exact h.symm
      rw [hv, cmpI_zero]
      refine ⟨by simp, fun h => ?_⟩
      have hne : a1 ≠ b1 := fun q => h ⟨rfl, q, rfl, rfl⟩
      have ea : kputI a0 a1 0 [] = [a0 % 256, a1 % 256] := by unfold kputI; simp [e]
      have eb : kputI a0 b1 0 [] = [a0 % 256, b1 % 256] := by unfold kputI; simp [e]
      rw [ea, eb]
      have ga := gb e
      have gb' := kb e
      have b1' := hb8 a1 (by omega) (by omega)
      have b2' := hb8 b1 (by omega) (by omega)
      refine Dif.cons _ ((Dif.head (fun q => hne ?_)).iff ?_)
      · have := congrArg UInt8.toNat q; omega
      · rw [cmpI_neg, UInt8.lt_iff_toNat_lt, b1', b2']; omega
    · obtain rfl : n = 0 := by omega
      obtain rfl : m = 0 := by omega
      obtain rfl : s = [] := by rcases f3 with h | h | h <;> first | exact h | omega
      obtain rfl : t = [] := by rcases l3 with h | h | h <;> first | exact h | omega
      have hv : cmpV a0 a1 0 [] a0 b1 0 [] = cmpI a1 b1 := by
        unfold cmpV; rw [zI, zU, zB]; unfold or0; simp
        intro h; exact h.symm
      rw [hv, cmpI_zero]
      refine ⟨by simp, fun h => ?_⟩
      have hne : a1 ≠ b1 := fun q => h ⟨rfl, q, rfl, rfl⟩
      have ea : kputI a0 a1 0 [] = (a0 % 256) :: eightI (turn (a1 % 18446744073709551616).toNat) := by unfold kputI; simp [e]
      have eb : kputI a0 b1 0 [] = (a0 % 256) :: eightI (turn (b1 % 18446744073709551616).toNat) := by unfold kputI; simp [e]
      rw [ea, eb]
      have m1 : turn (a1 % 18446744073709551616).toNat < 18446744073709551616 := turn_lt (by omega)
      have m2 : turn (b1 % 18446744073709551616).toNat < 18446744073709551616 := turn_lt (by omega)
      refine Dif.cons _ ((dif_eight m1 m2 ?_).iff ?_)
      · unfold turn; split <;> split <;> omega
      · rw [cmpI_neg]; unfold turn; split <;> split <;> omega
    · obtain rfl : a1 = 0 := by omega
      obtain rfl : b1 = 0 := by omega
      obtain rfl : s = [] := by rcases f3 with h | h | h <;> first | exact h | omega
      obtain rfl : t = [] := by rcases l3 with h | h | h <;> first | exact h | omega
      have hv : cmpV a0 0 n [] a0 0 m [] = cmpU n m := by
        unfold cmpV; rw [zI, zN, zB]; unfold or0; simp
        intro h; exact h.symm
      rw [hv, cmpU_zero, keyU_inj hn hm gc kc]
      refine ⟨by simp, fun h => ?_⟩
      have hne : n ≠ m := fun q => h ⟨rfl, rfl, q, rfl⟩
      have ea : kputI a0 0 n [] = (a0 % 256) :: eightI (keyU n) := by unfold kputI; simp [e]
      have eb : kputI a0 0 m [] = (a0 % 256) :: eightI (keyU m) := by unfold kputI; simp [e]
      rw [ea, eb]
      exact Dif.cons _ ((dif_eight (keyU_lt hn) (keyU_lt hm) (fun q => hne ((keyU_inj hn hm gc kc).1 q))).iff cmpU_neg)
    all_goals
      obtain rfl : a1 = 0 := by omega
      obtain rfl : b1 = 0 := by omega
      obtain rfl : n = 0 := by omega
      obtain rfl : m = 0 := by omega
      have hv : cmpV a0 0 0 s a0 0 0 t = cmpB s t := by
        unfold cmpV; rw [zI, zN, zU]; unfold or0; simp
      rw [hv, cmpB_zero]
      refine ⟨by simp, fun h => ?_⟩
      have hne : s ≠ t := fun q => h ⟨rfl, rfl, rfl, q⟩
      have n1 : ¬ a0 = 1 := by omega
      have n2 : ¬ a0 = 2 := by omega
      have n3 : ¬ a0 = 3 := by omega
      have n4 : a0 = 4 ∨ a0 = 5 := by omega
      have ea : ∀ u, kputI a0 0 0 u = (a0 % 256) :: escI u := fun u => by unfold kputI; rw [if_neg n1, if_neg n2, if_neg n3, if_pos n4]
      rw [ea, ea, List.map_cons, List.map_cons, escB_eq, escB_eq]
      refine Dif.cons _ ((dif_esc s t hne).iff ?_)
      rw [cmpB_neg]; simp [hne]
  · have hI : cmpI a0 b0 ≠ 0 := fun q => e0 (cmpI_zero.1 q)
    have hv : cmpV a0 a1 n s b0 b1 m t = cmpI a0 b0 := by unfold cmpV or0; rw [if_neg hI]
    rw [hv]
    refine ⟨⟨fun q => absurd q hI, fun q => absurd q.1 e0⟩, fun _ => ?_⟩
    obtain ⟨z1, h1⟩ := hcons a0 a1 n s
    obtain ⟨z2, h2⟩ := hcons b0 b1 m t
    rw [h1, h2, List.map_cons, List.map_cons]
    have b1' := hb8 a0 (by omega) (by omega)
    have b2' := hb8 b0 (by omega) (by omega)
    refine (Dif.head (fun q => e0 ?_)).iff ?_
    · have := congrArg UInt8.toNat q; omega
    · rw [cmpI_neg, UInt8.lt_iff_toNat_lt, b1', b2']; omega
/-- numbers within bounds -/
def Sound (v : V) : Prop := (-9223372036854775808 ≤ v.2.1 ∧ v.2.1 ≤ 9223372036854775807) ∧ ∃ n : Nat, v.2.2.1 = (n : Int) ∧ n < 18446744073709551616
theorem v_dif {v w : V} (hv : Sound v) (hw : Sound w) (cv : chk v = 0) (cw : chk w = 0) :
    (cV v w = 0 ↔ v = w) ∧ (v ≠ w → Dif ((kb v).map b8) ((kb w).map b8) (cV v w < 0)) := by
  obtain ⟨a0, a1, a2, a3, ⟨⟩⟩ := v
  obtain ⟨b0, b1, b2, b3, ⟨⟩⟩ := w
  obtain ⟨ha, n, hn, hn2⟩ := hv
  obtain ⟨hb, m, hm, hm2⟩ := hw
  simp only at hn hm
  subst hn; subst hm
  have e : ((a0, a1, (n : Int), a3, ()) : V) = (b0, b1, (m : Int), b3, ()) ↔ (a0 = b0 ∧ a1 = b1 ∧ n = m ∧ a3.data.toList = b3.data.toList) := by
    constructor
    · intro h; simp at h; obtain ⟨h1, h2, h3, h4⟩ := h; exact ⟨h1, h2, by omega, by rw [h4]⟩
    · rintro ⟨h1, h2, h3, h4⟩; rw [h1, h2, h3, ba_ext h4]
  have := vals_dif (a0 := a0) (b0 := b0) (s := a3.data.toList) (t := b3.data.toList) hn2 hm2 ha hb (by rw [← ba_of]; exact cv) (by rw [← ba_of]; exact cw)
  rw [ne_eq, e]
  exact this
theorem krow_zero {l : List V} (h : (krow l).2 = 0) : ∀ v ∈ l, chk v = 0 := by
  induction l with
  | nil => intro v hv; simp at hv
  | cons v l ih =>
    simp only [krow] at h
    split at h
    · rename_i hc; simp only at h; exact absurd h hc
    · rename_i hc
      split at h
      · rename_i hc2; simp only at h; exact absurd h hc2
      · rename_i hc2
        intro w hw
        rcases List.mem_cons.1 hw with rfl | hw
        · simpa using hc
        · exact ih (by simpa using hc2) w hw
theorem krow_cons {v : V} {l : List V} (h : (krow (v :: l)).2 = 0) : (krow (v :: l)).1 = (kb v).map b8 ++ (krow l).1 ∧ (krow l).2 = 0 ∧ chk v = 0 := by
  simp only [krow] at h ⊢
  split at h
  · rename_i hc; simp only at h; exact absurd h hc
  · rename_i hc
    rw [if_neg hc]
    split at h
    · rename_i hc2; simp only at h; exact absurd h hc2
    · rename_i hc2
      rw [if_neg hc2]
      exact ⟨rfl, by simpa using hc2, by simpa using hc⟩
theorem row_dif : ∀ (l m : List V), (∀ v ∈ l, Sound v) → (∀ v ∈ m, Sound v) → (krow l).2 = 0 → (krow m).2 = 0 →
    (cmpL l m < 0 ↔ Op.bytesLess (krow l).1 (krow m).1 = true) ∧ (cmpL l m = 0 ↔ (krow l).1 = (krow m).1)
  | [], [], _, _, _, _ => by simp [cmpL, krow, Op.bytesLess]
  | [], w :: m, _, _, _, h => by
    obtain ⟨h1, _, _⟩ := krow_cons h
    rw [h1]
    have hk : (kb w).map b8 = b8 (w.1 % 256) :: _ := rfl
    rw [hk]
    simp [cmpL, krow, Op.bytesLess]
  | v :: l, [], _, _, h, _ => by
    obtain ⟨h1, _, _⟩ := krow_cons h
    rw [h1]
    have hk : (kb v).map b8 = b8 (v.1 % 256) :: _ := rfl
    rw [hk]
    simp [cmpL, krow, Op.bytesLess]
  | v :: l, w :: m, hl, hm, h1, h2 => by
    obtain ⟨p1, p2, p3⟩ := krow_cons h1
    obtain ⟨q1, q2, q3⟩ := krow_cons h2
    obtain ⟨d1, d2⟩ := v_dif (hl v (by simp)) (hm w (by simp)) p3 q3
    rw [p1, q1, cmpL]
    by_cases e : v = w
    · subst e
      rw [if_neg (by simpa using d1.2 rfl), less_same, List.append_cancel_left_eq]
      exact row_dif l m (fun x hx => hl x (by simp [hx])) (fun x hx => hm x (by simp [hx])) p2 q2
    · have hd := d2 e
      have hz : cV v w ≠ 0 := fun q => e (d1.1 q)
      rw [if_pos hz]
      exact ⟨(hd.less _ _).symm, ⟨fun q => absurd q hz, fun q => absurd q (hd.ne _ _)⟩⟩
theorem awake_all (k : Nat) : transomlaw05_awake.f (k + 60) = some true := by kernel_rfl
theorem awake_ok {k : Nat} (h : 60 ≤ k) : transomlaw05_awake.f k = some true := by
  obtain ⟨j, rfl⟩ : ∃ j, k = j + 60 := ⟨k - 60, by omega⟩
  exact awake_all j
theorem sound_of {l : List V} (h : Fit (.sl VT) l) : ∀ v ∈ l, Sound v := by
  intro v hv
  obtain ⟨_, h2⟩ := h
  obtain ⟨_, h3, h4, _⟩ := h2 v hv
  exact ⟨fit_i64 h3, nat_of_u64 h4⟩
theorem Pure.KeycodeOrder (x0 : List V) (x1 : List V) (h0 : Fit (.sl VT) x0) (h1 : Fit (.sl VT) x1) : ∃ k, transomlaw05_KeycodeOrder.f k x0 x1 = some true := by
  refine ⟨9008, ?_⟩
  obtain ⟨k, hk, e⟩ : ∃ k, 9000 ≤ k ∧ 9008 = k + 8 := ⟨9000, Nat.le_refl _, rfl⟩
  rw [e]; clear e
  have aw : ∀ j, transomlaw05_awake.f (k + j) = some true := fun j => awake_ok (by omega)
  have aw0 : transomlaw05_awake.f k = some true := aw 0
  have dull : ∀ j, transomlaw05_KeycodeOrder.s0 (k + j + 1) x0 x1 true = some true := by
    intro j; simp only [transomlaw05_KeycodeOrder.s0, transomlaw05_KeycodeOrder.s0c, cond_true, aw, Option.bind_some]
  simp only [transomlaw05_KeycodeOrder.f, transomlaw05_KeycodeOrder.c, few05 x0 (k + 8) (by omega), few05 x1 (k + 8) (by omega), Option.bind_some, Option.bind_fun_some]
  by_cases hf : x0.length ≤ 30 ∧ ∀ v ∈ x0, v.2.2.2.1.size ≤ 2000
  · by_cases hg : x1.length ≤ 30 ∧ ∀ v ∈ x1, v.2.2.2.1.size ≤ 2000
    · rw [if_pos hf, if_pos hg]
      have hF := fit_v h0 hf
      have hG := fit_v h1 hg
      have hS := sound_of h0
      have hT := sound_of h1
      obtain ⟨p, hp1, _, hp3⟩ := rows_same hF (k + 6) (k + 6) (by omega) (by omega)
      obtain ⟨q, hq1, _, hq3⟩ := rows_same hG (k + 6) (k + 6) (by omega) (by omega)
      simp only [transomlaw05_KeycodeOrder.s0, transomlaw05_KeycodeOrder.s0c, transomlaw05_KeycodeOrder.s1, transomlaw05_KeycodeOrder.s1c, show ((1 : Int) == 0) = false from rfl, cond_false, hp1, hq1, Option.bind_some, Option.bind_fun_some]
      have dull2 : transomlaw05_KeycodeOrder.s2 (k + 6) x0 x1 p q true = some true := by
        simp only [transomlaw05_KeycodeOrder.s2, transomlaw05_KeycodeOrder.s2c, cond_true, aw, Option.bind_some]
      by_cases c0 : (krow x0).2 = 0
      · by_cases c1 : (krow x1).2 = 0
        · rw [if_pos c0] at hp3
          rw [if_pos c1] at hq3
          obtain ⟨r1, r2⟩ := row_dif x0 x1 hS hT c0 c1
          have hcr := cmprow_eq x0 x1 (fun v hv => (hS v hv).2) (fun v hv => (hT v hv).2) (by omega) (by omega) (k + 4) (by omega)
          have g1 : (decide (cmpL x0 x1 < 0) == Op.bytesLess p.toList q.toList) = true := by
            rw [beq_iff_eq, Bool.eq_iff_iff, decide_eq_true_iff, r1, toList_data, toList_data, hp3, hq3]
          have g2 : ((cmpL x0 x1 == 0) == (p.toList == q.toList)) = true := by
            rw [beq_iff_eq, Bool.eq_iff_iff, beq_iff_eq, beq_iff_eq, r2, toList_data, toList_data, hp3, hq3]
          simp only [c0, c1, bne_self_eq_false, cond_false, transomlaw05_KeycodeOrder.s2, transomlaw05_KeycodeOrder.s2c, transomlaw05_KeycodeOrder.s3, transomlaw05_KeycodeOrder.s3c, transomlaw05_KeycodeOrder.s4, transomlaw05_KeycodeOrder.s4c, hcr, Option.bind_some, Option.bind_fun_some, g1, g2, Bool.not_true]
          have s6f : ∀ j, transomlaw05_KeycodeOrder.s6 (k + j + 1) x0 x1 false = some true := by
            intro j; simp only [transomlaw05_KeycodeOrder.s6, transomlaw05_KeycodeOrder.s6c, cond_false, aw, Option.bind_some]
          simp only [transomlaw05_KeycodeOrder.s5, transomlaw05_KeycodeOrder.s5c, Option.bind_fun_some]
          by_cases z0 : x0.length = 0
          · have e : ¬ (x0.length : Int) > 0 := by omega
            simp only [e, decide_false, cond_false]; exact s6f 1
          · by_cases z1 : x1.length = 0
            · have e : (x0.length : Int) > 0 := by omega
              have e' : ¬ (x1.length : Int) > 0 := by omega
              simp only [e, e', decide_true, decide_false, cond_true, cond_false]; exact s6f 1
            · have i0 : 0 < x0.length := by omega
              have i1 : 0 < x1.length := by omega
              have e : (x0.length : Int) > 0 := by omega
              have e' : (x1.length : Int) > 0 := by omega
              have u : (0 : Int) < (x0.length : Int) := by omega
              have u' : (0 : Int) < (x1.length : Int) := by omega
              have el0 : elem VT x0 0 = x0[0] := elem_at i0
              have el1 : elem VT x1 0 = x1[0] := elem_at i1
              have cv0 := krow_zero c0 x0[0] (List.getElem_mem i0)
              have cv1 := krow_zero c1 x1[0] (List.getElem_mem i1)
              have sv0 := hS x0[0] (List.getElem_mem i0)
              have sv1 := hT x1[0] (List.getElem_mem i1)
              have lv0 := hf.2 x0[0] (List.getElem_mem i0)
              have lv1 := hg.2 x1[0] (List.getElem_mem i1)
              generalize x0[0] = v at *
              generalize x1[0] = w at *
              obtain ⟨d1, d2⟩ := v_dif sv0 sv1 cv0 cv1
              obtain ⟨_, n, hn, hn2⟩ := sv0
              obtain ⟨_, m, hm, hm2⟩ := sv1
              have hvc := vcmp_eq v.1 v.2.1 n v.2.2.2.1 w.1 w.2.1 m w.2.2.2.1 hn2 hm2 (k + 2) (by omega)
              have hcv : cmpV v.1 v.2.1 n v.2.2.2.1.data.toList w.1 w.2.1 m w.2.2.2.1.data.toList = cV v w := by unfold cV; rw [hn, hm]; rfl
              rw [hcv] at hvc
              obtain ⟨b, hb1, hb2⟩ := kPut_eq v.1 v.2.1 n hn2 v.2.2.2.1 (by omega) (k + 1) (by omega)
              obtain ⟨c, hc1, hc2⟩ := kPut_eq w.1 w.2.1 m hm2 w.2.2.2.1 (by omega) (k + 1) (by omega)
              have hch0 : checkS v.1 v.2.1 n v.2.2.2.1 = 0 := by rw [← cv0]; unfold chk; rw [hn]; rfl
              have hch1 : checkS w.1 w.2.1 m w.2.2.2.1 = 0 := by rw [← cv1]; unfold chk; rw [hm]; rfl
              have hkb0 : kputI v.1 v.2.1 n v.2.2.2.1.data.toList = kb v := by unfold kb; rw [hn]; rfl
              have hkb1 : kputI w.1 w.2.1 m w.2.2.2.1.data.toList = kb w := by unfold kb; rw [hm]; rfl
              rw [if_pos hch0, hkb0] at hb2
              rw [if_pos hch1, hkb1] at hc2
              simp only [e, e', u, u', el0, el1, hn, hm, hvc, decide_true, Bool.and_self, cond_true, Option.bind_some, Option.bind_fun_some]
              by_cases hz : cV v w = 0
              · rw [hz]; exact s6f 1
              · have hne : v ≠ w := fun q => hz (d1.2 q)
                have hnp := (d2 hne).noPrefix
                have hb : (cV v w != 0) = true := by rw [bne_iff_ne]; exact hz
                rw [hb]
                simp only [transomlaw05_KeycodeOrder.s6, transomlaw05_KeycodeOrder.s6c, u, u', el0, el1, hn, hm, hb1, hc1, decide_true, Bool.and_self, cond_true, Option.bind_some, Option.bind_fun_some, aw]
                by_cases hsz : (b.size : Int) > (c.size : Int)
                · simp only [hsz, decide_true, cond_true]
                · have hsz' : (b.size : Int) ≤ (c.size : Int) := by omega
                  have hneq : ((c.extract 0 (Int.toNat (b.size : Int))).toList == b.toList) = false := by
                    rw [beq_eq_false_iff_ne, toList_data, toList_data, take_data, Int.toNat_natCast, size_eq, hb2, hc2]
                    exact hnp
                  simp only [hsz, hsz', hneq, decide_true, decide_false, Bool.and_self, cond_true, cond_false, Bool.not_false]
        · have hb : ((krow x1).2 != 0) = true := by rw [bne_iff_ne]; exact c1
          simp only [c0, bne_self_eq_false, cond_false, hb]
          exact dull2
      · have hb : ((krow x0).2 != 0) = true := by rw [bne_iff_ne]; exact c0
        simp only [hb, cond_true]
        exact dull2
    · rw [if_pos hf, if_neg hg]
      exact dull 7
  · rw [if_neg hf]
    exact dull 7
end Go.Proofs.Ytpcojbnoadnknaa.Aev
