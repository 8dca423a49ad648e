/- UtfBack: a character's bytes, whatever is behind, are read as it; a beginning of them is short. For every input; no conditions. -/
import Derived.Test.YtognddakkfdifaaPUtfBackx
import Derived.Test.YtognddakkfdifaaBUtfBackUtfNext
namespace Go.Proofs.Ytognddakkfdifaa.Pure
set_option linter.unusedVariables false
set_option linter.unusedSimpArgs false
open Go.RowKit Go.Proofs.Ytognddakkfdifaa.PUtfBack Go.Proofs.YtognddakkfdifaaW.PrintWords Go.Proofs.YtognddakkfdifaaW.PrintLast
open Go.Proofs.Ytognddakkfdifaa.Plain

theorem first_2 {r : Nat} (h1 : 127 < r) (h2 : r ≤ 2047) : firstS (192 + r / 64) = (2, r / 64, 128, 191) := by
  unfold firstS
  rw [if_neg (by omega), if_neg (by omega), if_pos (by omega)]
  have : (192 + r / 64) % 32 = r / 64 := by omega
  rw [this]
theorem first_3 {r : Nat} (h1 : 2047 < r) (h2 : r ≤ 65535) : ∃ lo hi, firstS (224 + r / 4096) = (3, r / 4096, lo, hi) ∧ (okR r → lo ≤ 128 + r / 64 % 64 ∧ 128 + r / 64 % 64 ≤ hi) := by
  unfold firstS okR
  rw [if_neg (by omega), if_neg (by omega), if_neg (by omega)]
  by_cases c : 224 + r / 4096 = 224
  · rw [if_pos c]; exact ⟨160, 191, by rw [show r / 4096 = 0 by omega], by omega⟩
  · rw [if_neg c]
    by_cases d : 224 + r / 4096 = 237
    · rw [if_pos d]; exact ⟨128, 159, by rw [show r / 4096 = 13 by omega], by omega⟩
    · rw [if_neg d, if_pos (by omega)]; exact ⟨128, 191, by rw [show (224 + r / 4096) % 16 = r / 4096 by omega], by omega⟩
theorem first_4 {r : Nat} (h1 : 65535 < r) (h2 : r ≤ 1114111) : ∃ lo hi, firstS (240 + r / 262144) = (4, r / 262144, lo, hi) ∧ lo ≤ 128 + r / 4096 % 64 ∧ 128 + r / 4096 % 64 ≤ hi := by
  unfold firstS
  rw [if_neg (by omega), if_neg (by omega), if_neg (by omega), if_neg (by omega), if_neg (by omega), if_neg (by omega)]
  by_cases c : 240 + r / 262144 = 240
  · rw [if_pos c]; exact ⟨144, 191, by rw [show r / 262144 = 0 by omega], by omega⟩
  · rw [if_neg c]
    by_cases d : 240 + r / 262144 = 244
    · rw [if_pos d]; exact ⟨128, 143, by rw [show r / 262144 = 4 by omega], by omega⟩
    · rw [if_neg d]; exact ⟨128, 191, by rw [show (240 + r / 262144) % 8 = r / 262144 by omega], by omega⟩
/-- What is written is read as it was. -/
theorem next_put {r : Nat} (h : okR r) (u : List UInt8) : nextS ((putS r).map b8 ++ u) = ((r : Int), ((putS r).length : Int), 0) := by
  have hr : r ≤ 1114111 := by unfold okR at h; omega
  unfold putS
  by_cases c1 : r ≤ 127
  · rw [if_pos c1]
    have e : firstS r = (1, r, 0, 0) := by unfold firstS; rw [if_pos (by omega)]
    simp only [List.map_cons, List.map_nil, List.cons_append, List.nil_append, List.length_cons, List.length_nil]
    rw [nextS, b8_toNat (by omega), e]; rfl
  · rw [if_neg c1]
    by_cases c2 : r ≤ 2047
    · rw [if_pos c2]
      simp only [List.map_cons, List.map_nil, List.cons_append, List.nil_append, List.length_cons, List.length_nil]
      rw [nextS, b8_toNat (by omega), first_2 (by omega) c2]
      simp only [contS]
      rw [if_neg (by omega), b8_toNat (by omega), if_neg (by omega)]
      congr 1
      omega
    · rw [if_neg c2]
      by_cases c3 : r ≤ 65535
      · rw [if_pos c3]
        obtain ⟨lo, hi, e, b⟩ := first_3 (by omega) c3
        obtain ⟨b1, b2⟩ := b h
        simp only [List.map_cons, List.map_nil, List.cons_append, List.nil_append, List.length_cons, List.length_nil]
        rw [nextS, b8_toNat (by omega), e]
        simp only [contS]
        rw [if_neg (by omega), b8_toNat (by omega), if_neg (by omega), b8_toNat (by omega), if_neg (by omega)]
        congr 1
        omega
      · rw [if_neg c3]
        obtain ⟨lo, hi, e, b1, b2⟩ := first_4 (by omega) hr
        simp only [List.map_cons, List.map_nil, List.cons_append, List.nil_append, List.length_cons, List.length_nil]
        rw [nextS, b8_toNat (by omega), e]
        simp only [contS]
        rw [if_neg (by omega), b8_toNat (by omega), if_neg (by omega), b8_toNat (by omega), if_neg (by omega), b8_toNat (by omega), if_neg (by omega)]
        congr 1
        omega
/-- A beginning is short. -/
theorem cont_short (w : Nat) : ∀ (n r lo hi : Nat) (t : List UInt8) (q m : Int), contS w n r lo hi t = (q, m, 0) → ∀ i, i < n → contS w n r lo hi (t.take i) = (0, 0, 3) := by
  intro n
  induction n with
  | zero => intro r lo hi t q m h i hi; omega
  | succ n ih =>
    intro r lo hi t q m h i hin
    cases i with
    | zero => rfl
    | succ i =>
      cases t with
      | nil => simp [contS] at h
      | cons c t =>
        rw [contS] at h
        rw [List.take_succ_cons, contS]
        split at h
        · simp at h
        · rename_i hc
          rw [if_neg hc]
          exact ih _ _ _ _ _ _ h i (by omega)
theorem next_short {l : List UInt8} {r n : Int} (h : nextS l = (r, n, 0)) {i : Nat} (hi : (i : Int) < n) : nextS (l.take i) = (0, 0, 3) := by
  cases l with
  | nil => simp [nextS] at h
  | cons c t =>
    cases i with
    | zero => rfl
    | succ i =>
      rw [nextS] at h
      rw [List.take_succ_cons, nextS]
      split at h
      · simp at h
      · rename_i hc
        rw [if_neg hc]
        obtain ⟨a, _⟩ := cont_ok _ _ _ _ _ _ _ _ h
        exact cont_short _ _ _ _ _ _ _ _ h i (by omega)
theorem putS_len (r : Nat) : 1 ≤ (putS r).length ∧ (putS r).length ≤ 4 := by
  unfold putS
  split
  · simp
  · split
    · simp
    · split <;> simp
theorem loop_true {r : Nat} (h : okR r) : ∀ (d i k : Nat), i + d = (putS r).length → d + 50 ≤ k → transomlaw01_UtfBack.l0 k (putB r) (i : Int) = some true := by
  have hl := putS_len r
  have hz : (putB r).size = (putS r).length := by rw [sz, putB_data]; simp
  intro d
  induction d with
  | zero =>
    intro i k hi hk
    obtain ⟨k, rfl⟩ : ∃ j, k = j + 1 := ⟨k - 1, by omega⟩
    rw [transomlaw01_UtfBack.l0, if_neg (by omega), awake_true (by omega)]; rfl
  | succ d ih =>
    intro i k hi hk
    obtain ⟨k, rfl⟩ : ∃ j, k = j + 1 := ⟨k - 1, by omega⟩
    have hp := next_put h []
    rw [List.append_nil] at hp
    have hd : ((putB r).extract 0 i).data.toList = ((putS r).map b8).take i := by rw [extract_data, putB_data]; simp
    have hdz : ((putB r).extract 0 i).size ≤ 4 := by rw [sz, hd]; simp; omega
    have e1 : wrap64 ((i : Int) + 1) = ((i + 1 : Nat) : Int) := by rw [w64id (by omega) (by omega)]; omega
    rw [transomlaw01_UtfBack.l0, if_pos (by omega), if_pos (by omega), if_pos (by omega), Int.toNat_natCast, next_eq (by omega) (by omega), hd, next_short hp (by omega), Option.bind_some, if_pos rfl, e1]
    exact ih (i + 1) k (by omega) (by omega)
theorem UtfBack : transomlaw01_UtfBack.Pure := by
  intro r u wr hu
  obtain ⟨k, hk⟩ : ∃ k : Nat, 100 ≤ k := ⟨_, Nat.le_refl _⟩
  refine ⟨k + 5, ?_⟩
  unfold transomlaw01_UtfBack.f
  rcases put_total r k with ⟨o, e⟩ | ⟨o, e⟩
  · obtain ⟨n, rfl⟩ : ∃ n : Nat, r = (n : Int) := ⟨r.toNat, by unfold okR at o; omega⟩
    have hl := putS_len n
    have hz : (putB n).size = (putS n).length := by rw [sz, putB_data]; simp
    have hs : (putB n ++ u).size = (putB n).size + u.size := by simp
    have hp := next_put o u.data.toList
    rw [e, Option.bind_some, if_pos rfl, Int.toNat_natCast]
    dsimp only
    rw [if_pos (by omega), next_eq (by omega) (by omega), append_data, putB_data, hp, Option.bind_some]
    dsimp only
    rw [if_pos rfl, if_pos (by omega), if_pos rfl, decide_eq_false (by omega), transomlaw01_UtfBack.j0, if_neg (by simp)]
    exact loop_true o (putS n).length 0 (k + 4) (by omega) (by omega)
  · rw [e, Option.bind_some, if_neg (by omega)]
    dsimp only
    rw [toList_data, if_pos (by rfl), awake_true (by omega)]; rfl
end Go.Proofs.Ytognddakkfdifaa.Pure
