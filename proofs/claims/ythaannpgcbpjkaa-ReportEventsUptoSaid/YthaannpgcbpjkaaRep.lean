
/- Replies as texts: the program's and the document's ways. -/
import Derived.Test.YthaannpgcbpjkaaF0
import Derived.Test.YthaannpgcbpjkaaF3
import Derived.Test.YthaannpgcbpjkaaF6
import Derived.Test.YthaannpgcbpjkaaLineT
import Derived.Test.YthaannpgcbpjkaaBulk
namespace Go.Proofs.Ythaannpgcbpjkaa.Aev
open Go
set_option linter.unusedVariables false
set_option linter.unusedSimpArgs false
set_option maxRecDepth 100000
/-- a value that is no greater than a reading's values are -/
def OkB (v : V) : Prop := v.2.2.2.1.size ≤ 1048576 ∧ (∃ n : Nat, v.2.2.1 = (n : Int) ∧ n < 18446744073709551616) ∧ -9223372036854775808 ≤ v.2.1 ∧ v.2.1 ≤ 9223372036854775807
/-- a value's text, or a mark where it has none -/
noncomputable def shT (v : V) : List UInt8 := if (shw v).2 = 0 then (shw v).1 else [63]
theorem shb_eq {v : V} (h : OkB v) (k : Nat) (hk : 5000000 ≤ k) : words_Show.f k v.1 v.2.1 v.2.2.1 v.2.2.2.1 = some (mkW (shw v).1, (shw v).2) ∧ transomref36_Show.f k v.1 v.2.1 v.2.2.1 v.2.2.2.1 = some (mkW (shw v).1, (shw v).2) := by
  obtain ⟨h1, ⟨n, h2, h3⟩, h4, h5⟩ := h
  have hs : v.2.2.2.1.data.toList.length ≤ 1048576 := by rw [Array.length_toList]; exact h1
  have a := show_eq v.1 v.2.1 h4 h5 n h3 v.2.2.2.1.data.toList (by omega) k (by omega)
  have b := refshow_eq v.1 v.2.1 h4 h5 n h3 v.2.2.2.1.data.toList (by omega) k (by omega)
  unfold shw
  rw [h2, Int.toNat_natCast]
  exact ⟨a, b⟩
theorem quoteL_len (l : List UInt8) : (quoteL l).length ≤ 4 * l.length + 2 := by
  have := flatq_len l
  unfold quoteL
  rw [List.length_cons, List.length_append, List.length_singleton]; omega
theorem shT_len {v : V} (h : OkB v) : (shT v).length ≤ 4 * v.2.2.2.1.size + 30 := by
  obtain ⟨h1, ⟨n, h2, h3⟩, h4, h5⟩ := h
  have hs : v.2.2.2.1.data.toList.length = v.2.2.2.1.size := by rw [Array.length_toList]; rfl
  have hq := quoteL_len v.2.2.2.1.data.toList
  have hd := (digL_len v.2.1 h4 h5).1
  have hx := hexF_len v.2.2.1.toNat 16
  unfold shT
  split
  · unfold shw showL
    split
    · simp only [showT]
      (repeat' split) <;> (try simp only [List.length_cons, List.length_nil]) <;> omega
    · simp
  · simp
noncomputable def rowW (l : List V) : List ByteArray := l.map fun v => mkW (shT v)
noncomputable def RW : List (List V) → List ByteArray
  | [] => []
  | r :: rs => mkW [124] :: (rowW r ++ RW rs)
def OkR (rows : List (List V)) : Prop := ∀ r ∈ rows, ∀ v ∈ r, OkB v
theorem bk_v (v : V) : bk T_api_Value v = v.2.2.2.1.size := by
  show 0 + (0 + (0 + (v.2.2.2.1.size + 0))) = _
  omega
theorem row_len {l : List V} (h : ∀ v ∈ l, OkB v) : (jb (rowW l)).length ≤ 40 * bk (.sl T_api_Value) l := by
  induction l with
  | nil => simp [rowW, jb]
  | cons v l ih =>
    have h1 := ih (fun x hx => h x (List.mem_cons_of_mem _ hx))
    have h2 := shT_len (h v (by simp))
    have e : bk (.sl T_api_Value) (v :: l) = bk T_api_Value v + 1 + bk (.sl T_api_Value) l := by simp [bk]
    have e2 : rowW (v :: l) = mkW (shT v) :: rowW l := rfl
    rw [e, bk_v, e2, jb_cons, List.length_cons, List.length_append, ba_data]
    omega
theorem RW_len {rows : List (List V)} (h : OkR rows) : (jb (RW rows)).length ≤ 40 * bk (.sl (.sl T_api_Value)) rows := by
  induction rows with
  | nil => simp [RW, jb]
  | cons r rs ih =>
    have h1 := ih (fun x hx => h x (List.mem_cons_of_mem _ hx))
    have h2 := row_len (h r (by simp))
    have e : bk (.sl (.sl T_api_Value)) (r :: rs) = bk (.sl T_api_Value) r + 1 + bk (.sl (.sl T_api_Value)) rs := by simp [bk]
    rw [e, RW, jb_cons, jb_app, List.length_cons, List.length_append, List.length_append, ba_data]
    simp only [List.length_cons, List.length_nil]
    omega
theorem len_bk {e : Ty} (l : List e.den) : l.length ≤ bk (.sl e) l := by
  induction l with
  | nil => simp
  | cons x l ih =>
    have e : bk (.sl e) (x :: l) = bk e x + 1 + bk (.sl e) l := by simp [bk]
    rw [e, List.length_cons]; omega
theorem mem_bk {e : Ty} {x : e.den} {l : List e.den} (h : x ∈ l) : bk e x + 1 ≤ bk (.sl e) l := by
  induction l with
  | nil => cases h
  | cons y l ih =>
    have q : bk (.sl e) (y :: l) = bk e y + 1 + bk (.sl e) l := by simp [bk]
    rw [q]
    cases List.mem_cons.1 h with
    | inl z => subst z; omega
    | inr z => have := ih z; omega
theorem okr {rows : List (List V)} (hf : Fit (.sl (.sl T_api_Value)) rows) (hb : bk (.sl (.sl T_api_Value)) rows ≤ 1048576) : OkR rows := by
  intro r hr v hv
  have h1 := mem_bk (e := .sl T_api_Value) hr
  have h2 := mem_bk (e := T_api_Value) hv
  rw [bk_v] at h2
  obtain ⟨_, f2, f3, _⟩ := (hf.2 r hr).2 v hv
  exact ⟨by omega, nat_of_u64 f3, fit_i64 f2⟩
theorem elem_row {l : List (List V)} {i : Nat} (h : i < l.length) : elem (Ty.sl T_api_Value) l (i : Int) = l[i] := by
  simp [elem, List.getD, List.getElem?_eq_getElem h]
theorem or_eq (v : V) (k : Nat) : report_or.f k (mkW (shw v).1) (shw v).2 = some (mkW (shT v)) := by
  simp only [report_or.f, report_or.c, shT]
  by_cases c : (shw v).2 = 0
  · rw [ne_beq c, cond_false, if_pos c]
  · rw [ne_bne c, cond_true, if_neg c]
/-! ### the program's rows and replies -/
theorem rowp_s0 (l : List V) (hl : l.length ≤ 1048576) (h : ∀ v ∈ l, OkB v) : ∀ (m i : Nat) (x : List ByteArray), i + m = l.length → x.length = l.length → ∀ k, m + 5000000 < k →
    report_row.s0 k l (l.length : Int) (i : Int) x = some (x.take i ++ rowW (l.drop i)) := by
  intro m
  induction m with
  | zero =>
    intro i x hi hx k hk
    obtain ⟨k, rfl⟩ : ∃ q, k = q + 1 := ⟨k - 1, by omega⟩
    have e : ¬ (i : Int) < (l.length : Int) := by omega
    rw [List.drop_eq_nil_of_le (by omega), List.take_of_length_le (by omega)]
    simp only [report_row.s0, report_row.s0c, e, decide_false, cond_false, rowW, List.map_nil, List.append_nil]
  | succ m ih =>
    intro i x hi hx k hk
    obtain ⟨k, rfl⟩ : ∃ q, k = q + 1 := ⟨k - 1, by omega⟩
    have hlt : i < l.length := by omega
    have e0 : (i : Int) < (l.length : Int) := by omega
    have e1 : (0 : Int) ≤ (i : Int) := by omega
    have e2 : IntKind.wrap IntKind.i64 ((i : Int) + 1) = ((i + 1 : Nat) : Int) := by rw [i64w (by omega) (by omega)]; omega
    have he : elem T_api_Value l (i : Int) = l[i] := elem_at hlt
    have c := (shb_eq (h l[i] (List.getElem_mem _)) k (by omega)).1
    have c2 := or_eq l[i] k
    have e3 : (i : Int) < (x.length : Int) := by omega
    have := ih (i + 1) (x.set i (mkW (shT l[i]))) (by omega) (by simpa using hx) k (by omega)
    simp only [report_row.s0, report_row.s0c, e0, e1, e2, e3, he, c, c2, decide_true, Bool.and_self, cond_true, Option.bind_some, Option.bind_fun_some, Int.toNat_natCast]
    rw [this, List.drop_eq_getElem_cons hlt]
    congr 1
    rw [List.take_add_one, List.take_set_of_le (Nat.le_refl _)]
    rw [List.getElem?_set_self (by omega)]
    simp only [Option.toList_some, List.append_assoc, List.singleton_append]
    rfl
theorem rowp (l : List V) (hl : l.length ≤ 1048576) (h : ∀ v ∈ l, OkB v) (k : Nat) (hk : 6100000 ≤ k) : report_row.f k l = some (rowW l) := by
  have := rowp_s0 l hl h l.length 0 (List.replicate l.length (ByteArray.mk (List.toArray []))) (by omega) (by simp) k (by omega)
  have e1 : (l.length : Int) ≤ (l.length : Int) := by omega
  have e2 : (l.length : Int) * 16 ≤ 35184372088832 := by omega
  simp only [report_row.f, report_row.c, e1, e2, decide_true, Bool.and_self, cond_true, Int.toNat_natCast, Option.bind_fun_some]
  refine Eq.trans this ?_
  simp
theorem repp_s1 (rows : List (List V)) (hr : OkR rows) (hb : bk (.sl (.sl T_api_Value)) rows ≤ 1048576) : ∀ (m i : Nat) (x : List ByteArray), i + m = rows.length → (jn (x ++ RW (rows.drop i))).length ≤ 1073741824 → x ≠ [] → ∀ k, m + 6200000 < k →
    report_reply.s1 k rows (rows.length : Int) (i : Int) x = some (mkW (jn (x ++ RW (rows.drop i)))) := by
  have hlen := len_bk (e := .sl T_api_Value) rows
  intro m
  induction m with
  | zero =>
    intro i x hi hx hne k hk
    obtain ⟨k, rfl⟩ : ∃ q, k = q + 1 := ⟨k - 1, by omega⟩
    have e : ¬ (i : Int) < (rows.length : Int) := by omega
    rw [List.drop_eq_nil_of_le (by omega)] at hx ⊢
    rw [RW, List.append_nil] at hx ⊢
    have := join_eq x (by omega) k
    have this : strings_Join.f k x (ByteArray.mk (List.toArray [32])) = _ := this
    simp only [report_reply.s1, report_reply.s1c, e, decide_false, cond_false, this, Option.bind_some]
  | succ m ih =>
    intro i x hi hx hne k hk
    obtain ⟨k, rfl⟩ : ∃ q, k = q + 1 := ⟨k - 1, by omega⟩
    have hlt : i < rows.length := by omega
    have e0 : (i : Int) < (rows.length : Int) := by omega
    have e1 : (0 : Int) ≤ (i : Int) := by omega
    have e2 : IntKind.wrap IntKind.i64 ((i : Int) + 1) = ((i + 1 : Nat) : Int) := by rw [i64w (by omega) (by omega)]; omega
    have hm := mem_bk (e := .sl T_api_Value) (List.getElem_mem hlt)
    have hl := len_bk (e := T_api_Value) rows[i]
    have c := rowp rows[i] (by omega) (hr _ (List.getElem_mem _)) k (by omega)
    have hd : RW (rows.drop i) = mkW [124] :: (rowW rows[i] ++ RW (rows.drop (i + 1))) := by rw [List.drop_eq_getElem_cons hlt, RW]
    have hd2 : x ++ RW (rows.drop i) = (x ++ [mkW [124]] ++ rowW rows[i]) ++ RW (rows.drop (i + 1)) := by rw [hd]; simp
    have hj := jn_count (x ++ RW (rows.drop i))
    have hL : (x ++ RW (rows.drop i)).length ≤ 1073741825 := by omega
    have g1 : (x.length + 1) * 16 ≤ 35184372088832 := by rw [hd] at hL; simp at hL; omega
    have g2 : ((x ++ [mkW [124]]).length + (rowW rows[i]).length) * 16 ≤ 35184372088832 := by rw [hd2] at hL; simp at hL ⊢; omega
    have := ih (i + 1) (x ++ [mkW [124]] ++ rowW rows[i]) (by omega) (by rw [← hd2]; exact hx) (by simp) k (by omega)
    have g2 : ((x ++ [ByteArray.mk (List.toArray [124])]).length + (rowW rows[i]).length) * 16 ≤ 35184372088832 := g2
    simp only [report_reply.s1, report_reply.s1c, e0, e1, e2, elem_row hlt, c, g1, g2, decide_true, Bool.and_self, cond_true, Option.bind_some, Option.bind_fun_some]
    rw [hd2]
    exact this
abbrev wOk : ByteArray := ByteArray.mk (List.toArray [111, 107])
abbrev wError : ByteArray := ByteArray.mk (List.toArray [101, 114, 114, 111, 114])
/-- a reply's words -/
noncomputable def repW (e : Int) (rows : List (List V)) : List ByteArray := (if e = 0 then [wOk] else [wError, mkW (digL e)]) ++ RW rows
theorem repW_len {e : Int} (h0 : -9223372036854775808 ≤ e) (h1 : e ≤ 9223372036854775807) {rows : List (List V)} (hr : OkR rows) (hb : bk (.sl (.sl T_api_Value)) rows ≤ 1048576) : (jn (repW e rows)).length ≤ 50000000 := by
  have := RW_len hr
  have d := (digL_len e h0 h1).1
  unfold repW
  by_cases c : e = 0
  · rw [if_pos c, jn_app (by simp), List.length_append]
    have : (jn [wOk]).length = 2 := rfl
    omega
  · rw [if_neg c, jn_app (by simp), List.length_append]
    have : (jn [wError, mkW (digL e)]).length = 6 + (digL e).length := by rw [jn, jb_one, ba_data, ba_data]; simp; omega
    omega
theorem repp {e : Int} (h0 : -9223372036854775808 ≤ e) (h1 : e ≤ 9223372036854775807) {rows : List (List V)} (hr : OkR rows) (hb : bk (.sl (.sl T_api_Value)) rows ≤ 1048576) (k : Nat) (hk : 8000000 ≤ k) : report_reply.f k e rows = some (mkW (jn (repW e rows))) := by
  obtain ⟨k, rfl⟩ : ∃ q, k = q + 1 := ⟨k - 1, by omega⟩
  have hlen := len_bk (e := .sl T_api_Value) rows
  have hl := repW_len h0 h1 hr hb
  have d := digits_eq e h0 h1 (k + 1) (by omega)
  simp only [report_reply.f, report_reply.c, d, Option.bind_some, Option.bind_fun_some]
  unfold repW at hl ⊢
  by_cases c : e = 0
  · rw [if_pos c] at hl
    rw [ne_beq c, cond_false, if_pos c]
    simp only [report_reply.s0, report_reply.s0c, Option.bind_fun_some]
    exact repp_s1 rows hr hb rows.length 0 [wOk] (by omega) (by rw [List.drop_zero]; omega) (by simp) k (by omega)
  · rw [if_neg c] at hl
    rw [ne_bne c, cond_true, if_neg c]
    simp only [report_reply.s0, report_reply.s0c, Option.bind_fun_some]
    exact repp_s1 rows hr hb rows.length 0 [wError, mkW (digL e)] (by omega) (by rw [List.drop_zero]; omega) (by simp) k (by omega)
/-! ### the document's -/
theorem rshow (v : V) (h : OkB v) (k : Nat) (hk : 5000000 ≤ k) : transomref42_show.f k v.1 v.2.1 v.2.2.1 v.2.2.2.1 = some (mkW (shT v)) := by
  simp only [transomref42_show.f, transomref42_show.c, (shb_eq h k hk).2, Option.bind_some, shT]
  by_cases c : (shw v).2 = 0
  · rw [ne_beq c, cond_false, if_pos c]
  · rw [ne_bne c, cond_true, if_neg c]
theorem rvals_s0 (l : List V) (hl : l.length ≤ 1048576) (h : ∀ v ∈ l, OkB v) : ∀ (m i : Nat) (x : List UInt8), i + m = l.length → (x ++ jb (rowW (l.drop i))).length ≤ 1073741824 → ∀ k, m + 5000000 < k →
    transomref42_values.s0 k l (mkW x) (i : Int) = some (mkW (x ++ jb (rowW (l.drop i)))) := by
  intro m
  induction m with
  | zero =>
    intro i x hi hx k hk
    obtain ⟨k, rfl⟩ : ∃ q, k = q + 1 := ⟨k - 1, by omega⟩
    have e : ¬ (i : Int) < (l.length : Int) := by omega
    rw [List.drop_eq_nil_of_le (by omega)]
    simp only [transomref42_values.s0, transomref42_values.s0c, e, decide_false, cond_false, rowW, List.map_nil, jb, List.flatten_nil, List.append_nil]
  | succ m ih =>
    intro i x hi hx k hk
    obtain ⟨k, rfl⟩ : ∃ q, k = q + 1 := ⟨k - 1, by omega⟩
    have hlt : i < l.length := by omega
    have e0 : (i : Int) < (l.length : Int) := by omega
    have e1 : (0 : Int) ≤ (i : Int) := by omega
    have e2 : IntKind.wrap IntKind.i64 ((i : Int) + 1) = ((i + 1 : Nat) : Int) := by rw [i64w (by omega) (by omega)]; omega
    have he : elem T_api_Value l (i : Int) = l[i] := elem_at hlt
    have c := rshow l[i] (h l[i] (List.getElem_mem _)) k (by omega)
    have hd : x ++ jb (rowW (l.drop i)) = x ++ [32] ++ shT l[i] ++ jb (rowW (l.drop (i + 1))) := by
      rw [List.drop_eq_getElem_cons hlt]
      have : rowW (l[i] :: l.drop (i + 1)) = mkW (shT l[i]) :: rowW (l.drop (i + 1)) := rfl
      rw [this, jb_cons, ba_data]; simp
    rw [hd] at hx ⊢
    have g1 : x.length ≤ 4611686018427387903 := by simp at hx; omega
    have g2 : (x ++ [32]).length ≤ 4611686018427387903 := by simp at hx ⊢; omega
    have g3 : (shT l[i]).length ≤ 4611686018427387903 := by simp at hx; omega
    have := ih (i + 1) (x ++ [32] ++ shT l[i]) (by omega) hx k (by omega)
    simp only [transomref42_values.s0, transomref42_values.s0c, e0, e1, e2, he, c, ba_size, ba_append, g1, g2, g3, decide_true, Bool.and_self, Bool.and_true, cond_true, Option.bind_some, Option.bind_fun_some]
    exact this
theorem rvals (l : List V) (hl : l.length ≤ 1048576) (h : ∀ v ∈ l, OkB v) (hx : (jb (rowW l)).length ≤ 1073741824) (k : Nat) (hk : 6100000 ≤ k) : transomref42_values.f k l = some (mkW (jb (rowW l))) := by
  have := rvals_s0 l hl h l.length 0 [] (by omega) (by simpa using hx) k (by omega)
  simp only [transomref42_values.f, transomref42_values.c, Option.bind_fun_some]
  exact this
theorem rtold_s1 (rows : List (List V)) (e : Int) (hr : OkR rows) (hb : bk (.sl (.sl T_api_Value)) rows ≤ 1048576) : ∀ (m i : Nat) (x : List UInt8), i + m = rows.length → (x ++ jb (RW (rows.drop i))).length ≤ 1073741824 → ∀ k, m + 6200000 < k →
    transomref42_told.s1 k (mkW x) (i : Int) e rows = some (mkW (x ++ jb (RW (rows.drop i)))) := by
  have hlen := len_bk (e := .sl T_api_Value) rows
  intro m
  induction m with
  | zero =>
    intro i x hi hx k hk
    obtain ⟨k, rfl⟩ : ∃ q, k = q + 1 := ⟨k - 1, by omega⟩
    have e : ¬ (i : Int) < (rows.length : Int) := by omega
    rw [List.drop_eq_nil_of_le (by omega)]
    simp only [transomref42_told.s1, transomref42_told.s1c, e, decide_false, cond_false, RW, jb, List.map_nil, List.flatten_nil, List.append_nil]
  | succ m ih =>
    intro i x hi hx k hk
    obtain ⟨k, rfl⟩ : ∃ q, k = q + 1 := ⟨k - 1, by omega⟩
    have hlt : i < rows.length := by omega
    have e0 : (i : Int) < (rows.length : Int) := by omega
    have e1 : (0 : Int) ≤ (i : Int) := by omega
    have e2 : IntKind.wrap IntKind.i64 ((i : Int) + 1) = ((i + 1 : Nat) : Int) := by rw [i64w (by omega) (by omega)]; omega
    have hm := mem_bk (e := .sl T_api_Value) (List.getElem_mem hlt)
    have hl := len_bk (e := T_api_Value) rows[i]
    have hd : x ++ jb (RW (rows.drop i)) = x ++ [32, 124] ++ jb (rowW rows[i]) ++ jb (RW (rows.drop (i + 1))) := by
      rw [List.drop_eq_getElem_cons hlt, RW, jb_cons, jb_app, ba_data]; simp
    rw [hd] at hx ⊢
    have c := rvals rows[i] (by omega) (hr _ (List.getElem_mem _)) (by simp at hx; omega) k (by omega)
    have g1 : x.length ≤ 4611686018427387903 := by simp at hx; omega
    have g2 : (x ++ [32, 124]).length ≤ 4611686018427387903 := by simp at hx ⊢; omega
    have g3 : (jb (rowW rows[i])).length ≤ 4611686018427387903 := by simp at hx; omega
    have := ih (i + 1) (x ++ [32, 124] ++ jb (rowW rows[i])) (by omega) hx k (by omega)
    simp only [transomref42_told.s1, transomref42_told.s1c, e0, e1, e2, elem_row hlt, c, ba_size, ba_append, g1, g2, g3, decide_true, Bool.and_self, Bool.and_true, cond_true, Option.bind_some, Option.bind_fun_some]
    exact this
theorem rtold {e : Int} (h0 : -9223372036854775808 ≤ e) (h1 : e ≤ 9223372036854775807) {rows : List (List V)} (hr : OkR rows) (hb : bk (.sl (.sl T_api_Value)) rows ≤ 1048576) (k : Nat) (hk : 8000000 ≤ k) : transomref42_told.f k e rows = some (mkW (jn (repW e rows))) := by
  obtain ⟨k, rfl⟩ : ∃ q, k = q + 1 := ⟨k - 1, by omega⟩
  have hlen := len_bk (e := .sl T_api_Value) rows
  have hl := repW_len h0 h1 hr hb
  have d := refdigits_eq e h0 h1 (k + 1) (by omega)
  have dl := (digL_len e h0 h1).1
  have g : (digL e).length ≤ 4611686018427387903 := by omega
  simp only [transomref42_told.f, transomref42_told.c, d, Option.bind_some, Option.bind_fun_some, ba_size, ba_append, g, decide_true, Bool.and_self, cond_true]
  unfold repW at hl ⊢
  by_cases c : e = 0
  · rw [if_pos c, jn_app (by simp)] at hl ⊢
    rw [ne_beq c, cond_false]
    simp only [transomref42_told.s0, transomref42_told.s0c, Option.bind_fun_some]
    exact rtold_s1 rows e hr hb rows.length 0 [111, 107] (by omega) (by rw [List.drop_zero]; exact Nat.le_trans hl (by omega)) k (by omega)
  · rw [if_neg c, jn_app (by simp)] at hl ⊢
    rw [ne_bne c, cond_true]
    have ej : jn [wError, mkW (digL e)] = [101, 114, 114, 111, 114, 32] ++ digL e := by rw [jn, jb_one, ba_data, ba_data]; rfl
    rw [ej] at hl ⊢
    simp only [transomref42_told.s0, transomref42_told.s0c, Option.bind_fun_some]
    exact rtold_s1 rows e hr hb rows.length 0 ([101, 114, 114, 111, 114, 32] ++ digL e) (by omega) (by rw [List.drop_zero]; omega) k (by omega)
end Go.Proofs.Ythaannpgcbpjkaa.Aev
