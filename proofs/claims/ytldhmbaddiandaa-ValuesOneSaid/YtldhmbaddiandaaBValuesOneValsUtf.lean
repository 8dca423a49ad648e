/- The document's package utf as plain functions. -/
import Derived.Test.YtldhmbaddiandaaBValuesOneValsCount
namespace Go.Proofs.Ytldhmbaddiandaa.PValuesOne
set_option linter.unusedVariables false
set_option linter.unusedSimpArgs false
open Go.RowKit Go.Proofs.YtldhmbaddiandaaW.PrintWords Go.Proofs.YtldhmbaddiandaaW.PrintLast Go.Proofs.YtldhmbaddiandaaW.PrintMore
open Go.Proofs.Ytldhmbaddiandaa.Plain

/-- Is one of the numbers a character of so many bytes? -/
def amS (lo hi : Nat) (w : Nat) : Bool :=
  decide (max lo (if w = 2 then 128 else if w = 3 then 2048 else if w = 4 then 65536 else 0) ≤ min hi (if w = 2 then 2047 else if w = 3 then 65535 else if w = 4 then 1114111 else 127) ∧
    (max lo (if w = 2 then 128 else if w = 3 then 2048 else if w = 4 then 65536 else 0) < 55296 ∨ 57343 < min hi (if w = 2 then 2047 else if w = 3 then 65535 else if w = 4 then 1114111 else 127)))
theorem among_end (a b : Int) (c d : Bool) (h1 : ¬ a > b ∧ (a < 55296 ∨ b > 57343) ↔ c = true) : (if a > b then some false else if a < 55296 then some true else some (decide (b > 57343))) = some c := by
  by_cases x : a > b
  · rw [if_pos x]; cases c
    · rfl
    · exact absurd x (h1.2 rfl).1
  · rw [if_neg x]
    by_cases y : a < 55296
    · rw [if_pos y, h1.1 ⟨x, .inl y⟩]
    · rw [if_neg y]
      cases c
      · rw [decide_eq_false (fun z => by have := h1.1 ⟨x, .inr z⟩; simp at this)]
      · rw [decide_eq_true ((h1.2 rfl).2.resolve_left y)]
theorem among_eq (lo hi w : Nat) (k : Nat) : transomref01_among.f (k + 2) (lo : Int) (hi : Int) (w : Int) = some (amS lo hi w) := by
  unfold transomref01_among.f
  by_cases w2 : w = 2
  · subst w2
    rw [if_pos (by omega), transomref01_among.j0, if_neg (by omega), transomref01_among.j1, if_neg (by omega)]
    refine among_end _ _ _ true ?_
    unfold amS mx mn
    rw [decide_eq_true_eq]
    simp only [if_true]
    omega
  · rw [if_neg (by omega), transomref01_among.j0]
    by_cases w3 : w = 3
    · subst w3
      rw [if_pos (by omega), transomref01_among.j1, if_neg (by omega)]
      refine among_end _ _ _ true ?_
      unfold amS mx mn
      rw [decide_eq_true_eq]
      simp only [if_neg (show ¬ 3 = 2 by omega), if_true]
      omega
    · rw [if_neg (by omega), transomref01_among.j1]
      by_cases w4 : w = 4
      · subst w4
        rw [if_pos (by omega)]
        refine among_end _ _ _ true ?_
        unfold amS mx mn
        rw [decide_eq_true_eq]
        simp only [if_neg (show ¬ 4 = 2 by omega), if_neg (show ¬ 4 = 3 by omega), if_true]
        omega
      · rw [if_neg (by omega)]
        refine among_end _ _ _ true ?_
        unfold amS mx mn
        rw [decide_eq_true_eq]
        simp only [if_neg w2, if_neg w3, if_neg w4]
        omega
theorem am2 {r x : Nat} (h1 : 2 ≤ r) (h2 : r ≤ 31) (hx : x < 64) : amS ((r * 64 + x) * 1) ((r * 64 + x) * 1 + 1 - 1) 2 = true := by
  unfold amS; rw [decide_eq_true_eq]; simp only [if_true]; omega
theorem am3 {r c lo hi : Nat} (h1 : r ≤ 15) (hc1 : 128 ≤ c) (hc2 : c ≤ 191) (hlo : lo = if r = 0 then 160 else 128) (hhi : hi = if r = 13 then 159 else 191) :
    amS ((r * 64 + c % 64) * 64) ((r * 64 + c % 64) * 64 + 64 - 1) 3 = decide (lo ≤ c ∧ c ≤ hi) := by
  unfold amS
  rw [decide_eq_decide]
  simp only [if_neg (show ¬ 3 = 2 by omega), if_true]
  subst hlo hhi
  by_cases r0 : r = 0
  · rw [if_pos r0, if_neg (show ¬ r = 13 by omega)]; omega
  · rw [if_neg r0]
    by_cases r13 : r = 13
    · rw [if_pos r13]; omega
    · rw [if_neg r13]; omega
theorem am3b {r c d lo hi : Nat} (h1 : r ≤ 15) (hc1 : 128 ≤ c) (hc2 : c ≤ 191) (hlo : lo = if r = 0 then 160 else 128) (hhi : hi = if r = 13 then 159 else 191) (e : lo ≤ c ∧ c ≤ hi) (hd : d < 64) :
    amS (((r * 64 + c % 64) * 64 + d) * 1) (((r * 64 + c % 64) * 64 + d) * 1 + 1 - 1) 3 = true := by
  unfold amS
  rw [decide_eq_true_eq]
  simp only [if_neg (show ¬ 3 = 2 by omega), if_true]
  subst hlo hhi
  split at e <;> split at e <;> omega
theorem am4 {r c lo hi : Nat} (h1 : r ≤ 4) (hc1 : 128 ≤ c) (hc2 : c ≤ 191) (hlo : lo = if r = 0 then 144 else 128) (hhi : hi = if r = 4 then 143 else 191) :
    amS ((r * 64 + c % 64) * 4096) ((r * 64 + c % 64) * 4096 + 4096 - 1) 4 = decide (lo ≤ c ∧ c ≤ hi) := by
  unfold amS
  rw [decide_eq_decide]
  simp only [if_neg (show ¬ 4 = 2 by omega), if_neg (show ¬ 4 = 3 by omega), if_true]
  subst hlo hhi
  by_cases r0 : r = 0
  · rw [if_pos r0, if_neg (show ¬ r = 4 by omega)]; omega
  · rw [if_neg r0]
    by_cases r13 : r = 4
    · rw [if_pos r13]; omega
    · rw [if_neg r13]; omega
theorem am4r {r c lo hi : Nat} (h1 : r ≤ 4) (hc1 : 128 ≤ c) (hc2 : c ≤ 191) (hlo : lo = if r = 0 then 144 else 128) (hhi : hi = if r = 4 then 143 else 191) (e : lo ≤ c ∧ c ≤ hi) : 16 ≤ r * 64 + c % 64 ∧ r * 64 + c % 64 ≤ 271 := by
  subst hlo hhi
  split at e <;> split at e <;> omega
theorem am4b {r d : Nat} (h1 : 16 ≤ r) (h2 : r ≤ 271) (hd : d < 64) : amS ((r * 64 + d) * 64) ((r * 64 + d) * 64 + 64 - 1) 4 = true := by
  unfold amS
  rw [decide_eq_true_eq]
  simp only [if_neg (show ¬ 4 = 2 by omega), if_neg (show ¬ 4 = 3 by omega), if_true]
  omega
theorem am4c {r d : Nat} (h1 : 1024 ≤ r) (h2 : r ≤ 17407) (hd : d < 64) : amS ((r * 64 + d) * 1) ((r * 64 + d) * 1 + 1 - 1) 4 = true := by
  unfold amS
  rw [decide_eq_true_eq]
  simp only [if_neg (show ¬ 4 = 2 by omega), if_neg (show ¬ 4 = 3 by omega), if_true]
  omega
theorem w_shift {r c : Nat} (hr : r ≤ 1048576) (h1 : 128 ≤ c) (h2 : c ≤ 191) : wrap64 (wrap64 (wrap64 ((r : Int) * 64) + (c : Int)) - 128) = ((r * 64 + c % 64 : Nat) : Int) := by
  rw [w64id (n := (r : Int) * 64) (by omega) (by omega), w64id (n := (r : Int) * 64 + (c : Int)) (by omega) (by omega), w64id (by omega) (by omega)]; omega
theorem w_div {q : Nat} (hq : q ≤ 4096) : wrap64 (Int.tdiv ((64 * q : Nat) : Int) 64) = (q : Int) := by
  rw [Int.tdiv_eq_ediv_of_nonneg (by omega), w64id (by omega) (by omega)]; omega
theorem w_mul {m q : Nat} (hm : m ≤ 67108928) (hq : q ≤ 4096) : wrap64 ((m : Int) * (q : Int)) = ((m * q : Nat) : Int) ∧ (1 ≤ q → wrap64 (wrap64 (((m * q : Nat) : Int) + (q : Int)) - 1) = ((m * q + q - 1 : Nat) : Int)) := by
  have h : m * q ≤ 274878169088 := Nat.mul_le_mul hm hq
  rw [← Int.natCast_mul]
  generalize m * q = P at h
  refine ⟨w64id (by omega) (by omega), fun h1 => ?_⟩
  rw [w64id (n := (P : Int) + (q : Int)) (by omega) (by omega), w64id (by omega) (by omega)]; omega
theorem l1_end (s : ByteArray) (w r rest k : Nat) : transomref01_Next.l1 (k + 1) s (w : Int) (r : Int) (rest : Int) (w : Int) = some ((r : Int), (w : Int), 0) := by
  rw [transomref01_Next.l1, if_neg (by omega)]
theorem l1_step (s : ByteArray) (hs : s.size ≤ 4611686018427387904) (w r q i k : Nat) (hi : i < w) (hw : w ≤ 4) (hr : r ≤ 1048576) (hq1 : 1 ≤ q) (hq : q ≤ 4096) (hz : i ≤ s.size) :
    transomref01_Next.l1 (k + 4) s (w : Int) (r : Int) ((64 * q : Nat) : Int) (i : Int) =
      match s.data.toList.drop i with
      | [] => some (0, 0, 3)
      | c :: t => if c.toNat < 128 ∨ 191 < c.toNat then some (0, 0, 7) else if amS ((r * 64 + c.toNat % 64) * q) ((r * 64 + c.toNat % 64) * q + q - 1) w = true then transomref01_Next.l1 (k + 2) s (w : Int) ((r * 64 + c.toNat % 64 : Nat) : Int) (q : Int) ((i + 1 : Nat) : Int) else some (0, 0, 7) := by
  rw [transomref01_Next.l1, if_pos (by omega)]
  by_cases c : s.size ≤ i
  · rw [if_pos (show (i : Int) ≥ (s.size : Int) by omega), List.drop_eq_nil_of_le (by rw [← sz]; exact c)]
  · have hl : i < s.data.toList.length := by rw [← sz]; omega
    have hd : s.data.toList.drop i = s.data.toList[i] :: s.data.toList.drop (i + 1) := List.drop_eq_getElem_cons hl
    have hb : bt s (i : Int) = ((s.data.toList[i]).toNat : Int) := bt_get hl
    rw [if_neg (show ¬ (i : Int) ≥ (s.size : Int) by omega), if_pos (by omega), if_pos (by omega), hb, hd]
    generalize s.data.toList[i] = b
    have hb8 := b.toNat_lt
    dsimp only
    rw [w64id (n := (b.toNat : Int)) (by omega) (by omega)]
    by_cases d : b.toNat < 128
    · rw [if_pos (by omega), transomref01_Next.j2, if_pos rfl, if_pos (.inl d)]
    · rw [if_neg (by omega)]
      by_cases e : 191 < b.toNat
      · rw [decide_eq_true (by omega), transomref01_Next.j2, if_pos rfl, if_pos (.inr e)]
      · rw [decide_eq_false (by omega), transomref01_Next.j2, if_neg (by simp), if_neg (by omega)]
        have e1 := w_shift (r := r) (c := b.toNat) hr (by omega) (by omega)
        have e2 := w_div hq
        obtain ⟨e3, e4⟩ := w_mul (m := r * 64 + b.toNat % 64) (q := q) (by omega) hq
        have e4 := e4 hq1
        have e5 : wrap64 ((i : Int) + 1) = ((i + 1 : Nat) : Int) := by rw [w64id (by omega) (by omega)]; omega
        rw [e1, e2, e3, e4, e5, among_eq, Option.bind_some]
theorem l1_two (s : ByteArray) (hs : s.size ≤ 4611686018427387904) (r k : Nat) (h1 : 2 ≤ r) (h2 : r ≤ 31) (hz : 1 ≤ s.size) :
    transomref01_Next.l1 (k + 4) s (2 : Nat) (r : Int) ((64 * 1 : Nat) : Int) (1 : Nat) = some (contS 2 1 r 128 191 (s.data.toList.drop 1)) := by
  rw [l1_step s hs 2 r 1 1 k (by omega) (by omega) (by omega) (by omega) (by omega) hz]
  cases s.data.toList.drop 1 with
  | nil => rfl
  | cons c t =>
    dsimp only
    rw [contS]
    by_cases d : c.toNat < 128 ∨ 191 < c.toNat
    · rw [if_pos d, if_pos d]
    · rw [if_neg d, if_neg d, if_pos (am2 h1 h2 (Nat.mod_lt _ (by omega))), l1_end]; rfl
theorem l1_three (s : ByteArray) (hs : s.size ≤ 4611686018427387904) (r lo hi k : Nat) (h1 : r ≤ 15) (hlo : lo = if r = 0 then 160 else 128) (hhi : hi = if r = 13 then 159 else 191) (hz : 1 ≤ s.size) :
    transomref01_Next.l1 (k + 6) s (3 : Nat) (r : Int) ((64 * 64 : Nat) : Int) (1 : Nat) = some (contS 3 2 r lo hi (s.data.toList.drop 1)) := by
  have hlo1 : 128 ≤ lo := by subst hlo; split <;> omega
  have hhi1 : hi ≤ 191 := by subst hhi; split <;> omega
  rw [l1_step s hs 3 r 64 1 (k + 2) (by omega) (by omega) (by omega) (by omega) (by omega) hz]
  by_cases z2 : s.size ≤ 1
  · rw [List.drop_eq_nil_of_le (by rw [← sz]; exact z2)]; rfl
  cases hd : s.data.toList.drop 1 with
  | nil => rfl
  | cons c t =>
    dsimp only
    rw [contS]
    have ht : s.data.toList.drop 2 = t := by rw [show 2 = 1 + 1 from rfl, ← List.drop_drop, hd]; rfl
    by_cases d : c.toNat < 128 ∨ 191 < c.toNat
    · rw [if_pos d, if_pos (by omega)]
    · rw [if_neg d]
      rw [am3 h1 (by omega) (by omega) hlo hhi]
      by_cases e : lo ≤ c.toNat ∧ c.toNat ≤ hi
      · rw [decide_eq_true e, if_pos rfl, if_neg (by omega), show k + 2 + 2 = k + 4 by omega]
        have := l1_step s hs 3 (r * 64 + c.toNat % 64) 1 2 k (by omega) (by omega) (by omega) (by omega) (by omega) (by omega)
        rw [ht] at this
        rw [show (64 : Nat) = 64 * 1 from rfl] at *
        rw [show ((64 * 1 : Nat) : Int) = ((64 * 1 : Nat) : Int) from rfl]
        refine Eq.trans this ?_
        cases t with
        | nil => rfl
        | cons c2 t2 =>
          dsimp only
          rw [contS]
          by_cases d2 : c2.toNat < 128 ∨ 191 < c2.toNat
          · rw [if_pos d2, if_pos d2]
          · rw [if_neg d2, if_neg d2, if_pos (am3b h1 (by omega) (by omega) hlo hhi e (Nat.mod_lt _ (by omega))), l1_end]; rfl
      · rw [decide_eq_false e, if_neg (by simp), if_pos (by omega)]
theorem l1_four (s : ByteArray) (hs : s.size ≤ 4611686018427387904) (r lo hi k : Nat) (h1 : r ≤ 4) (hlo : lo = if r = 0 then 144 else 128) (hhi : hi = if r = 4 then 143 else 191) (hz : 1 ≤ s.size) :
    transomref01_Next.l1 (k + 8) s (4 : Nat) (r : Int) ((64 * 4096 : Nat) : Int) (1 : Nat) = some (contS 4 3 r lo hi (s.data.toList.drop 1)) := by
  have hlo1 : 128 ≤ lo := by subst hlo; split <;> omega
  have hhi1 : hi ≤ 191 := by subst hhi; split <;> omega
  rw [l1_step s hs 4 r 4096 1 (k + 4) (by omega) (by omega) (by omega) (by omega) (by omega) hz]
  cases hd : s.data.toList.drop 1 with
  | nil => rfl
  | cons c t =>
    dsimp only
    rw [contS]
    have hz2 : 2 ≤ s.size := by
      rcases Nat.lt_or_ge s.size 2 with z | z
      · rw [List.drop_eq_nil_of_le (by rw [← sz]; omega)] at hd; exact absurd hd (by simp)
      · exact z
    have ht : s.data.toList.drop 2 = t := by rw [show 2 = 1 + 1 from rfl, ← List.drop_drop, hd]; rfl
    by_cases d : c.toNat < 128 ∨ 191 < c.toNat
    · rw [if_pos d, if_pos (by omega)]
    · rw [if_neg d]
      rw [am4 h1 (by omega) (by omega) hlo hhi]
      by_cases e : lo ≤ c.toNat ∧ c.toNat ≤ hi
      · rw [decide_eq_true e, if_pos rfl, if_neg (by omega), show k + 4 + 2 = k + 2 + 4 by omega]
        have hr1 := am4r h1 (by omega) (by omega) hlo hhi e
        generalize r * 64 + c.toNat % 64 = r1 at hr1
        have := l1_step s hs 4 r1 64 2 (k + 2) (by omega) (by omega) (by omega) (by omega) (by omega) (by omega)
        rw [ht] at this
        refine Eq.trans this ?_
        cases t with
        | nil => rfl
        | cons c2 t2 =>
          dsimp only
          rw [contS]
          have hz3 : 3 ≤ s.size := by
            rcases Nat.lt_or_ge s.size 3 with z | z
            · rw [List.drop_eq_nil_of_le (by rw [← sz]; omega)] at ht; exact absurd ht (by simp)
            · exact z
          have ht2 : s.data.toList.drop 3 = t2 := by rw [show 3 = 2 + 1 from rfl, ← List.drop_drop, ht]; rfl
          by_cases d2 : c2.toNat < 128 ∨ 191 < c2.toNat
          · rw [if_pos d2, if_pos d2]
          · rw [if_neg d2, if_neg d2, if_pos (am4b hr1.1 hr1.2 (Nat.mod_lt _ (by omega)))]
            have hr2 : 1024 ≤ r1 * 64 + c2.toNat % 64 ∧ r1 * 64 + c2.toNat % 64 ≤ 17407 := by omega
            generalize r1 * 64 + c2.toNat % 64 = r2 at hr2
            have := l1_step s hs 4 r2 1 3 k (by omega) (by omega) (by omega) (by omega) (by omega) (by omega)
            rw [ht2] at this
            refine Eq.trans this ?_
            cases t2 with
            | nil => rfl
            | cons c3 t3 =>
              dsimp only
              rw [contS]
              by_cases d3 : c3.toNat < 128 ∨ 191 < c3.toNat
              · rw [if_pos d3, if_pos d3]
              · rw [if_neg d3, if_neg d3, if_pos (am4c hr2.1 hr2.2 (Nat.mod_lt _ (by omega))), l1_end]; rfl
      · rw [decide_eq_false e, if_neg (by simp), if_pos (by omega)]

def leadS (c : Nat) : Nat × Nat := if c < 128 then (1, c) else if 192 ≤ c ∧ c < 224 then (2, c - 192) else if 224 ≤ c ∧ c < 240 then (3, c - 224) else if 240 ≤ c ∧ c < 248 then (4, c - 240) else (0, 0)
theorem lead_3 : ∀ c : Fin 256, transomref01_lead.f 3 (c.val : Int) = some (((leadS c.val).1 : Int), ((leadS c.val).2 : Int)) := by decide +kernel
theorem lead_eq {c : Nat} (h : c < 256) (k : Nat) : transomref01_lead.f (k + 3) (c : Int) = some (((leadS c).1 : Int), ((leadS c).2 : Int)) := by
  induction k with
  | zero => exact lead_3 ⟨c, h⟩
  | succ k ih => exact transomref01_lead.mono _ _ _ ih
theorem w_mul' {m q : Nat} (hm : m ≤ 128) (hq1 : 1 ≤ q) (hq : q ≤ 262144) : wrap64 ((m : Int) * (q : Int)) = ((m * q : Nat) : Int) ∧ wrap64 (wrap64 (((m * q : Nat) : Int) + (q : Int)) - 1) = ((m * q + q - 1 : Nat) : Int) := by
  have h : m * q ≤ 33554432 := Nat.mul_le_mul hm hq
  rw [← Int.natCast_mul]
  generalize m * q = P at h
  refine ⟨w64id (by omega) (by omega), ?_⟩
  rw [w64id (n := (P : Int) + (q : Int)) (by omega) (by omega), w64id (by omega) (by omega)]; omega
theorem l0_end (s : ByteArray) (w r q k : Nat) (hr : r ≤ 128) (hq1 : 1 ≤ q) (hq : q ≤ 262144) : transomref01_Next.l0 (k + 3) s (w : Int) (r : Int) (q : Int) (w : Int) =
    if amS (r * q) (r * q + q - 1) w = true then transomref01_Next.l1 (k + 2) s (w : Int) (r : Int) (q : Int) (1 : Nat) else some (0, 0, 7) := by
  obtain ⟨e1, e2⟩ := w_mul' (m := r) (q := q) hr hq1 hq
  rw [transomref01_Next.l0, if_neg (by omega), e1, e2, among_eq, Option.bind_some]; rfl
theorem l0_more (s : ByteArray) (w r q i k : Nat) (hi : i < w) (hw : w ≤ 4) (hq : q ≤ 262144) : transomref01_Next.l0 (k + 1) s (w : Int) (r : Int) (q : Int) (i : Int) = transomref01_Next.l0 k s (w : Int) (r : Int) ((q * 64 : Nat) : Int) ((i + 1 : Nat) : Int) := by
  have e1 : wrap64 ((q : Int) * 64) = ((q * 64 : Nat) : Int) := by rw [w64id (by omega) (by omega)]; omega
  have e2 : wrap64 ((i : Int) + 1) = ((i + 1 : Nat) : Int) := by rw [w64id (by omega) (by omega)]; omega
  rw [transomref01_Next.l0, if_pos (by omega), e1, e2]
theorem am_1 {c : Nat} (h : c < 128) : amS (c * 1) (c * 1 + 1 - 1) 1 = true := by
  unfold amS; rw [decide_eq_true_eq]; simp only [if_neg (show ¬ 1 = 2 by omega), if_neg (show ¬ 1 = 3 by omega), if_neg (show ¬ 1 = 4 by omega)]; omega
theorem am_2 {r : Nat} (h : r ≤ 31) : amS (r * 64) (r * 64 + 64 - 1) 2 = decide (2 ≤ r) := by
  unfold amS; rw [decide_eq_decide]; simp only [if_true]; omega
theorem am_3 {r : Nat} (h : r ≤ 15) : amS (r * 4096) (r * 4096 + 4096 - 1) 3 = true := by
  unfold amS; rw [decide_eq_true_eq]; simp only [if_neg (show ¬ 3 = 2 by omega), if_true]; omega
theorem am_4 {r : Nat} (h : r ≤ 7) : amS (r * 262144) (r * 262144 + 262144 - 1) 4 = decide (r ≤ 4) := by
  unfold amS; rw [decide_eq_decide]; simp only [if_neg (show ¬ 4 = 2 by omega), if_neg (show ¬ 4 = 3 by omega), if_true]; omega
theorem f_1 {c : Nat} (h : c < 128) : firstS c = (1, c, 0, 0) := by unfold firstS; rw [if_pos h]
theorem f_2' : ∀ r : Fin 32, firstS (192 + r.val) = if 2 ≤ r.val then (2, r.val, 128, 191) else (0, 0, 0, 0) := by decide +kernel
theorem f_2 {r : Nat} (h : r ≤ 31) : firstS (192 + r) = if 2 ≤ r then (2, r, 128, 191) else (0, 0, 0, 0) := f_2' ⟨r, by omega⟩
theorem f_3' : ∀ r : Fin 16, firstS (224 + r.val) = (3, r.val, if r.val = 0 then 160 else 128, if r.val = 13 then 159 else 191) := by decide +kernel
theorem f_3 {r : Nat} (h : r ≤ 15) : firstS (224 + r) = (3, r, if r = 0 then 160 else 128, if r = 13 then 159 else 191) := f_3' ⟨r, by omega⟩
theorem f_4' : ∀ r : Fin 8, firstS (240 + r.val) = if r.val ≤ 4 then (4, r.val, if r.val = 0 then 144 else 128, if r.val = 4 then 143 else 191) else (0, 0, 0, 0) := by decide +kernel
theorem f_4 {r : Nat} (h : r ≤ 7) : firstS (240 + r) = if r ≤ 4 then (4, r, if r = 0 then 144 else 128, if r = 4 then 143 else 191) else (0, 0, 0, 0) := f_4' ⟨r, by omega⟩
theorem f_0' : ∀ c : Fin 256, (leadS c.val).1 = 0 → firstS c.val = (0, 0, 0, 0) := by decide +kernel
theorem lead_cases' : ∀ c : Fin 256, c.val < 128 ∧ leadS c.val = (1, c.val) ∨ 192 ≤ c.val ∧ c.val < 224 ∧ leadS c.val = (2, c.val - 192) ∨ 224 ≤ c.val ∧ c.val < 240 ∧ leadS c.val = (3, c.val - 224) ∨ 240 ≤ c.val ∧ c.val < 248 ∧ leadS c.val = (4, c.val - 240) ∨ leadS c.val = (0, 0) := by decide +kernel
theorem lead_cases {c : Nat} (h : c < 256) : c < 128 ∧ leadS c = (1, c) ∨ 192 ≤ c ∧ c < 224 ∧ leadS c = (2, c - 192) ∨ 224 ≤ c ∧ c < 240 ∧ leadS c = (3, c - 224) ∨ 240 ≤ c ∧ c < 248 ∧ leadS c = (4, c - 240) ∨ leadS c = (0, 0) := lead_cases' ⟨c, h⟩
theorem refnext_eq {s : ByteArray} {k : Nat} (hs : s.size ≤ 4611686018427387904) (hk : 30 ≤ k) : transomref01_Next.f k s = some (nextS s.data.toList) := by
  obtain ⟨k, rfl⟩ : ∃ j, k = j + 30 := ⟨k - 30, by omega⟩
  unfold transomref01_Next.f
  cases hl : s.data.toList with
  | nil =>
    have h0 : s.size = 0 := by rw [sz, hl]; rfl
    rw [if_pos (by omega)]; rfl
  | cons c t =>
    have h0 : 1 ≤ s.size := by rw [sz, hl]; simp
    have hb : bt s 0 = (c.toNat : Int) := bt_mid (pre := []) hl
    have hc := c.toNat_lt
    have hd : s.data.toList.drop 1 = t := by rw [hl]; rfl
    rw [if_neg (by omega), if_pos (by omega), hb, w64id (n := (c.toNat : Int)) (by omega) (by omega), show k + 30 = k + 27 + 3 by omega, lead_eq hc, Option.bind_some, nextS]
    rcases lead_cases hc with ⟨a, e⟩ | ⟨a, b, e⟩ | ⟨a, b, e⟩ | ⟨a, b, e⟩ | e
    · rw [show leadS c.toNat = (1, c.toNat) from e, f_1 a]
      dsimp only
      rw [if_neg (by omega), if_neg (by omega)]
      have := l0_end s 1 c.toNat 1 (k + 27) (by omega) (by omega) (by omega)
      rw [am_1 a, if_pos rfl, l1_end] at this
      exact this
    · obtain ⟨r, hr⟩ : ∃ r, c.toNat = 192 + r := ⟨c.toNat - 192, by omega⟩
      rw [show leadS c.toNat = (2, c.toNat - 192) from e, hr, f_2 (by omega)]
      dsimp only
      rw [if_neg (by omega), show 192 + r - 192 = r by omega]
      have h1 := l0_more s 2 r 1 1 (k + 29) (by omega) (by omega) (by omega)
      have h2 := l0_end s 2 r 64 (k + 26) (by omega) (by omega) (by omega)
      rw [am_2 (by omega)] at h2
      refine Eq.trans h1 (Eq.trans h2 ?_)
      by_cases g : 2 ≤ r
      · rw [decide_eq_true g, if_pos rfl, if_pos g]
        dsimp only
        rw [if_neg (by omega)]
        have := l1_two s hs r (k + 24) g (by omega) h0
        rw [hd] at this
        exact this
      · rw [decide_eq_false g, if_neg (by simp), if_neg g]; rfl
    · obtain ⟨r, hr⟩ : ∃ r, c.toNat = 224 + r := ⟨c.toNat - 224, by omega⟩
      rw [show leadS c.toNat = (3, c.toNat - 224) from e, hr, f_3 (by omega)]
      dsimp only
      rw [if_neg (by omega), if_neg (by omega), show 224 + r - 224 = r by omega]
      have h1 := l0_more s 3 r 1 1 (k + 29) (by omega) (by omega) (by omega)
      have h2 := l0_more s 3 r 64 2 (k + 28) (by omega) (by omega) (by omega)
      have h3 := l0_end s 3 r 4096 (k + 25) (by omega) (by omega) (by omega)
      rw [am_3 (by omega), if_pos rfl] at h3
      refine Eq.trans h1 (Eq.trans h2 (Eq.trans h3 ?_))
      have := l1_three s hs r _ _ (k + 21) (by omega) rfl rfl h0
      rw [hd] at this
      exact this
    · obtain ⟨r, hr⟩ : ∃ r, c.toNat = 240 + r := ⟨c.toNat - 240, by omega⟩
      rw [show leadS c.toNat = (4, c.toNat - 240) from e, hr, f_4 (by omega)]
      dsimp only
      rw [if_neg (by omega), show 240 + r - 240 = r by omega]
      have h1 := l0_more s 4 r 1 1 (k + 29) (by omega) (by omega) (by omega)
      have h2 := l0_more s 4 r 64 2 (k + 28) (by omega) (by omega) (by omega)
      have h3 := l0_more s 4 r 4096 3 (k + 27) (by omega) (by omega) (by omega)
      have h4 := l0_end s 4 r 262144 (k + 24) (by omega) (by omega) (by omega)
      rw [am_4 (by omega)] at h4
      refine Eq.trans h1 (Eq.trans h2 (Eq.trans h3 (Eq.trans h4 ?_)))
      by_cases g : r ≤ 4
      · rw [decide_eq_true g, if_pos rfl, if_pos g]
        dsimp only
        rw [if_neg (by omega)]
        have := l1_four s hs r _ _ (k + 18) g rfl rfl h0
        rw [hd] at this
        exact this
      · rw [decide_eq_false g, if_neg (by simp), if_neg g]; rfl
    · have hf := f_0' ⟨c.toNat, hc⟩ (by rw [show leadS c.toNat = (0, 0) from e])
      rw [show leadS c.toNat = (0, 0) from e, show firstS c.toNat = (0, 0, 0, 0) from hf]; rfl
theorem refcount_l0 {l : List UInt8} {rs : List Int} {b : Bool} (h : Rd l rs b) : ∀ (s : ByteArray) (x i k : Nat), s.data.toList.drop i = l → i ≤ s.size → s.size ≤ 140737488351232 → x + l.length ≤ 140737488351232 → l.length + 40 ≤ k →
    transomref01_Count.l0 k s x i = some (if b = true then ((x + rs.length : Nat) : Int) else -1) := by
  induction h with
  | nil =>
    intro s x i k hs hi hz hx hk
    obtain ⟨k, rfl⟩ : ∃ j, k = j + 1 := ⟨k - 1, by omega⟩
    have : s.size ≤ i := by rw [sz]; exact List.drop_eq_nil_iff.1 hs
    rw [transomref01_Count.l0, if_neg (by omega), if_pos rfl]; rfl
  | @bad l r n e hn hq he =>
    intro s x i k hs hi hz hx hk
    obtain ⟨k, rfl⟩ : ∃ j, k = j + 1 := ⟨k - 1, by omega⟩
    have hlt : i < s.size := by
      rcases Nat.lt_or_ge i s.size with z | z
      · exact z
      · exact absurd (hs.symm.trans (List.drop_eq_nil_of_le (by rw [← sz]; exact z))) hn
    have hd := drop_ba s i
    have hdz : (s.extract i s.size).size ≤ s.size := by rw [sz, hd, List.length_drop, ← sz]; omega
    rw [transomref01_Count.l0, if_pos (by omega), if_pos (by omega), if_pos (by omega), Int.toNat_natCast, refnext_eq (by omega) (by omega), hd, hs, hq, Option.bind_some]
    dsimp only
    rw [if_neg he]; rfl
  | @cons l r n rs b hn hq hr ih =>
    intro s x i k hs hi hz hx hk
    obtain ⟨k, rfl⟩ : ∃ j, k = j + 1 := ⟨k - 1, by omega⟩
    have hlt : i < s.size := by
      rcases Nat.lt_or_ge i s.size with z | z
      · exact z
      · exact absurd (hs.symm.trans (List.drop_eq_nil_of_le (by rw [← sz]; exact z))) hn
    have ho := next_ok hq
    have hd := drop_ba s i
    have hll : l.length = s.size - i := by rw [← hs, List.length_drop, ← sz]
    have hdz : (s.extract i s.size).size ≤ s.size := by rw [sz, hd, List.length_drop, ← sz]; omega
    have e1 : wrap64 ((x : Int) + 1) = ((x + 1 : Nat) : Int) := by rw [w64id (by omega) (by omega)]; omega
    have e2 : wrap64 ((i : Int) + n) = ((i + n.toNat : Nat) : Int) := by rw [w64id (by omega) (by omega)]; omega
    rw [transomref01_Count.l0, if_pos (by omega), if_pos (by omega), if_pos (by omega), Int.toNat_natCast, refnext_eq (by omega) (by omega), hd, hs, hq, Option.bind_some]
    dsimp only
    rw [if_pos rfl, e1, e2, ih s (x + 1) (i + n.toNat) k (by rw [← List.drop_drop, hs]) (by omega) hz (by rw [List.length_drop]; omega) (by rw [List.length_drop]; omega)]
    congr 1
    split
    · simp; omega
    · rfl
end Go.Proofs.Ytldhmbaddiandaa.PValuesOne
