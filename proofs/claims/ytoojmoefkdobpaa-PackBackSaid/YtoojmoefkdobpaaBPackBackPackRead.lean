/- How pack reads what it wrote, and only that. -/
import Derived.Test.YtoojmoefkdobpaaBPackBackPack
namespace Go.Proofs.Ytoojmoefkdobpaa.PPackBack
set_option linter.unusedVariables false
set_option linter.unusedSimpArgs false
open Go.RowKit Go.Proofs.YtoojmoefkdobpaaW.PrintWords Go.Proofs.Ytoojmoefkdobpaa.Plain

theorem and127 : ∀ b : Fin 256, Go.bits .and .u8 (b.val : Int) 127 = ((b.val % 128 : Nat) : Int) := by decide +kernel
theorem and127' (c : UInt8) : Go.bits .and .u8 (c.toNat : Int) 127 = ((c.toNat % 128 : Nat) : Int) := and127 ⟨c.toNat, c.toNat_lt⟩
theorem or_add {v c j : Nat} (hv : v < 2 ^ j) (h : v + c * 2 ^ j < 18446744073709551616) : Go.bits .or .u64 (v : Int) ((c * 2 ^ j : Nat) : Int) = ((v + c * 2 ^ j : Nat) : Int) := by
  rw [Go.u64_or_nat v (c * 2 ^ j) (by omega) (by omega)]
  have := Nat.two_pow_add_eq_or_of_lt hv c
  rw [Nat.or_comm, Nat.mul_comm c, ← this, Nat.add_comm]
theorem N_eq {s : ByteArray} {i v : Nat} {c : UInt8} (hb : bt s (i : Int) = (c.toNat : Int)) (hv : v < 2 ^ (7 * i)) (h : v + c.toNat % 128 * 2 ^ (7 * i) < 18446744073709551616) :
    pack_ReadUint.N s v i = ((v + c.toNat % 128 * 2 ^ (7 * i) : Nat) : Int) := by
  unfold pack_ReadUint.N
  have e0 : IntKind.u64.wrap ((c.toNat % 128 : Nat) : Int) = ((c.toNat % 128 : Nat) : Int) := u64id (by omega) (by omega)
  rw [hb, and127', e0]
  have e1 : (7 * (i : Int)).toNat = 7 * i := by omega
  have e2 : ((c.toNat % 128 : Nat) : Int) * 2 ^ (7 * i) = ((c.toNat % 128 * 2 ^ (7 * i) : Nat) : Int) := by rw [Int.natCast_mul, Int.natCast_pow]; rfl
  rw [e1, e2, u64id (by omega) (by omega), or_add hv h]

/-- What is written is read as it was. -/
theorem read_l0 (m : Nat) : ∀ (k i v : Nat) (s : ByteArray) (pre behind : List UInt8), (enc m).length ≤ k → v < 2 ^ (7 * i) → v + m * 2 ^ (7 * i) < 18446744073709551616 → i ≤ 9 → (i = 0 ∨ 0 < m) →
    s.data.toList = pre ++ (enc m).map b8 ++ behind → pre.length = i → pack_ReadUint.l0 k s v i = some (((v + m * 2 ^ (7 * i) : Nat) : Int), ⟨behind.toArray⟩, 0) := by
  induction m using Nat.strongRecOn with
  | _ m ih =>
    intro k i v s pre behind hk hv ht hi hz hs hl
    have h1 := enc_ne m
    obtain ⟨k, rfl⟩ : ∃ j, k = j + 1 := ⟨k - 1, by omega⟩
    have hsz : s.size = s.data.toList.length := sz s
    simp only [pack_ReadUint.l0]
    by_cases hm : 127 < m
    · have hcons : s.data.toList = pre ++ b8 (m % 128 + 128) :: ((enc (m / 128)).map b8 ++ behind) := by rw [hs, enc_big hm]; simp
      have hb : bt s (i : Int) = ((m % 128 + 128 : Nat) : Int) := by rw [← hl, bt_mid hcons, b8_toNat (by omega)]
      have hlen : i < s.size := by rw [hsz, hcons]; simp; omega
      have hi8 : i ≤ 8 := by
        rcases Nat.lt_or_ge i 9 with h | h
        · omega
        · obtain rfl : i = 9 := by omega
          have e : 2 ^ (7 * 9) = 9223372036854775808 := rfl
          rw [e] at ht
          omega
      rw [if_neg (by omega), if_pos (by omega), hb, if_neg (by omega), if_pos (by omega)]
      have hN := N_eq (c := b8 (m % 128 + 128)) (s := s) (i := i) (v := v) (by rw [hb, b8_toNat (by omega)]) hv
      rw [b8_toNat (by omega)] at hN
      have e0 : (m % 128 + 128) % 128 = m % 128 := by omega
      rw [e0] at hN
      have hp : 2 ^ (7 * (i + 1)) = 128 * 2 ^ (7 * i) := by rw [Nat.mul_add, Nat.pow_add]; omega
      have hmul : m * 2 ^ (7 * i) = m % 128 * 2 ^ (7 * i) + m / 128 * 2 ^ (7 * (i + 1)) := by
        rw [hp, ← Nat.mul_assoc, ← Nat.add_mul]; congr 1; omega
      have hlt : m % 128 * 2 ^ (7 * i) ≤ 127 * 2 ^ (7 * i) := Nat.mul_le_mul_right _ (by omega)
      rw [hN (by omega)]
      have e1 : (i : Int) + 1 = ((i + 1 : Nat) : Int) := by omega
      rw [e1, ih (m / 128) (by omega) k (i + 1) _ s (pre ++ [b8 (m % 128 + 128)]) behind (by rw [enc_big hm] at hk; simpa using hk) (by omega) (by omega) (by omega) (.inr (by omega)) (by rw [hcons]; simp) (by simp; omega)]
      congr 3
      omega
    · have hcons : s.data.toList = pre ++ b8 m :: behind := by rw [hs, enc_small hm]; simp
      have hb : bt s (i : Int) = (m : Int) := by rw [← hl, bt_mid hcons, b8_toNat (by omega)]
      have hlen : i < s.size := by rw [hsz, hcons]; simp; omega
      have hi9 : i = 9 → m ≤ 1 := by
        rintro rfl
        have e : 2 ^ (7 * 9) = 9223372036854775808 := rfl
        rw [e] at ht
        omega
      rw [if_neg (by omega), if_pos (by omega), hb, if_neg (by omega), if_neg (by omega), if_neg (by omega)]
      have hN := N_eq (c := b8 m) (s := s) (i := i) (v := v) (by rw [hb, b8_toNat (by omega)]) hv
      rw [b8_toNat (by omega)] at hN
      have e0 : m % 128 = m := by omega
      rw [e0] at hN
      rw [hN ht]
      have e2 : s.extract ((i : Int) + 1).toNat s.size = ⟨behind.toArray⟩ := by
        apply ba_ext
        have e1 : ((i : Int) + 1).toNat = i + 1 := by omega
        rw [e1, drop_data, hcons, List.drop_append]
        simp [hl]
      rw [e2]
theorem read_f (m : Nat) (h : m < 18446744073709551616) (behind : ByteArray) : pack_ReadUint.f (encB m ++ behind) = some ((m : Int), behind, 0) := by
  unfold pack_ReadUint.f
  have := read_l0 m 11 0 0 (encB m ++ behind) [] behind.data.toList (by have := enc_len64 h; omega) (by simp) (by simpa using h) (by omega) (.inl rfl) (by rw [append_data, encB_data]; simp) rfl
  simpa using this

/-- What is read was written so. -/
theorem read_back : ∀ (k i v : Nat) (s : ByteArray) (n : Int) (rest : ByteArray), v < 2 ^ (7 * i) → i ≤ 9 → pack_ReadUint.l0 k s v i = some (n, rest, 0) →
    ∃ m : Nat, n = ((v + m * 2 ^ (7 * i) : Nat) : Int) ∧ v + m * 2 ^ (7 * i) < 18446744073709551616 ∧ (i = 0 ∨ 0 < m) ∧ s.data.toList.drop i = (enc m).map b8 ++ rest.data.toList := by
  intro k
  induction k with
  | zero => intro i v s n rest _ _ h; simp [pack_ReadUint.l0] at h
  | succ k ih =>
    intro i v s n rest hv hi h
    simp only [pack_ReadUint.l0] at h
    by_cases c1 : (i : Int) = (s.size : Int)
    · rw [if_pos c1] at h; simp at h
    · rw [if_neg c1] at h
      by_cases c2 : (i : Int) < (s.size : Int)
      · rw [if_pos c2] at h
        have hl : i < s.data.toList.length := by rw [← sz]; omega
        have hb : bt s (i : Int) = ((s.data.toList[i]).toNat : Int) := bt_get hl
        have hc := (s.data.toList[i]).toNat_lt
        have hdrop : s.data.toList.drop i = s.data.toList[i] :: s.data.toList.drop (i + 1) := List.drop_eq_getElem_cons hl
        generalize hce : s.data.toList[i] = c at hb hc hdrop
        have hcm : c.toNat % 128 * 2 ^ (7 * i) ≤ 127 * 2 ^ (7 * i) := Nat.mul_le_mul_right _ (by omega)
        have hN := N_eq (c := c) (s := s) (i := i) (v := v) hb hv
        have hp : 2 ^ (7 * (i + 1)) = 128 * 2 ^ (7 * i) := by rw [Nat.mul_add, Nat.pow_add]; omega
        have h8 : i ≤ 8 → 128 * 2 ^ (7 * i) ≤ 9223372036854775808 := by
          intro h8
          have : 2 ^ (7 * i) ≤ 2 ^ 56 := Nat.pow_le_pow_right (by omega) (by omega)
          omega
        rw [hb] at h
        by_cases c3 : (i : Int) = 9 ∧ (c.toNat : Int) > 1
        · rw [if_pos c3] at h; simp at h
        · rw [if_neg c3] at h
          have hfit : v + c.toNat % 128 * 2 ^ (7 * i) < 18446744073709551616 := by
            rcases Nat.lt_or_ge i 9 with h9 | h9
            · have := h8 (by omega); omega
            · obtain rfl : i = 9 := by omega
              have : c.toNat ≤ 1 := by
                rcases Nat.lt_or_ge 1 c.toNat with h | h
                · exact absurd ⟨rfl, by omega⟩ c3
                · exact h
              have e : 2 ^ (7 * 9) = 9223372036854775808 := rfl
              rw [e] at hv ⊢
              omega
          by_cases c4 : (c.toNat : Int) > 127
          · rw [if_pos c4] at h
            have hi8 : i ≤ 8 := by
              rcases Nat.lt_or_ge i 9 with h9 | h9
              · omega
              · exact absurd ⟨by omega, by omega⟩ c3
            have e1 : (i : Int) + 1 = ((i + 1 : Nat) : Int) := by omega
            rw [hN hfit, e1] at h
            obtain ⟨m, hn, hlt, hz, hd⟩ := ih (i + 1) (v + c.toNat % 128 * 2 ^ (7 * i)) s n rest (by omega) (by omega) h
            have hm : 0 < m := by omega
            refine ⟨c.toNat % 128 + 128 * m, ?_, ?_, .inr (by omega), ?_⟩
            · rw [hn, hp, Nat.add_mul]; congr 1
              have : m * (128 * 2 ^ (7 * i)) = 128 * m * 2 ^ (7 * i) := by rw [← Nat.mul_assoc, Nat.mul_comm m]
              omega
            · rw [hp] at hlt
              rw [Nat.add_mul]
              have : m * (128 * 2 ^ (7 * i)) = 128 * m * 2 ^ (7 * i) := by rw [← Nat.mul_assoc, Nat.mul_comm m]
              omega
            · rw [hdrop, hd, enc_big (m := c.toNat % 128 + 128 * m) (by omega)]
              have e2 : (c.toNat % 128 + 128 * m) % 128 + 128 = c.toNat := by omega
              have e3 : (c.toNat % 128 + 128 * m) / 128 = m := by omega
              rw [e2, e3, List.map_cons, b8_eta]; rfl
          · rw [if_neg c4] at h
            by_cases c5 : (c.toNat : Int) = 0 ∧ (i : Int) > 0
            · rw [if_pos c5] at h; simp at h
            · rw [if_neg c5] at h
              rw [hN hfit] at h
              have e0 : c.toNat % 128 = c.toNat := by omega
              rw [e0] at h hfit
              simp only [Option.some.injEq, Prod.mk.injEq] at h
              obtain ⟨rfl, rfl, _⟩ := h
              refine ⟨c.toNat, rfl, hfit, ?_, ?_⟩
              · rcases Nat.eq_zero_or_pos i with h | h
                · exact .inl h
                · refine .inr ?_
                  rcases Nat.eq_zero_or_pos c.toNat with h' | h'
                  · exact absurd ⟨by omega, by omega⟩ c5
                  · exact h'
              · have e1 : ((i : Int) + 1).toNat = i + 1 := by omega
                rw [e1, drop_data, hdrop, enc_small (by omega)]
                simp [b8_eta]
      · rw [if_neg c2] at h; simp at h
theorem read_once {s : ByteArray} {n : Int} {rest : ByteArray} (h : pack_ReadUint.f s = some (n, rest, 0)) : ∃ m : Nat, n = (m : Int) ∧ m < 18446744073709551616 ∧ s = encB m ++ rest := by
  obtain ⟨m, hn, hlt, _, hd⟩ := read_back 11 0 0 s n rest (by simp) (by omega) h
  refine ⟨m, by simpa using hn, by simpa using hlt, ba_ext ?_⟩
  rw [append_data, encB_data, ← hd]; rfl
end Go.Proofs.Ytoojmoefkdobpaa.PPackBack
