import Derived.Test.YtimadphjdkjgaaaDoorF0
import Derived.Test.YtimadphjdkjgaaaDoorF3
import Derived.Test.YtimadphjdkjgaaaDoorF6
import Derived.Test.YtimadphjdkjgaaaDoorRdP
import Derived.Test.YtimadphjdkjgaaaDoorLineT

/- Lines read as steps: the program's way and the document's give the same. -/
namespace Go.Proofs.YtimadphjdkjgaaaDoor.Aev
open Go
set_option linter.unusedVariables false
set_option linter.unusedSimpArgs false
set_option maxRecDepth 100000
/-! ### words of a line -/
theorem refS_wlen : ∀ (l cur : List UInt8) (q e : Bool) (ws : List (List UInt8)), ∀ w ∈ (refS l cur q e ws).1, w ∈ ws ∨ w.length ≤ cur.length + l.length
 | [], cur, q, e, ws, w, hw => by
  rw [refS] at hw
  split at hw
  ·simp at hw
  ·split at hw
   ·exact .inl hw
   ·rcases List.mem_append.1 hw with h | h
    ·exact .inl h
    ·rw [List.mem_singleton.1 h]; exact .inr (Nat.le_refl _)
 | c :: t, cur, q, e, ws, w, hw => by
  have ih := refS_wlen t
  rw [refS] at hw
  rw [List.length_cons]
  split at hw
  ·split at hw
   ·rcases ih [] q e ws w hw with h | h
    ·exact .inl h
    ·right; simp at h; omega
   ·rcases ih [] q e (ws ++ [cur]) w hw with h | h
    ·rcases List.mem_append.1 h with h | h
     ·exact .inl h
     ·rw [List.mem_singleton.1 h]; exact .inr (Nat.le_add_right _ _)
    ·right; simp at h; omega
  ·split at hw
   ·rcases ih _ _ _ ws w hw with h | h
    ·exact .inl h
    ·right; simp at h; omega
   ·split at hw
    ·rcases ih _ _ _ ws w hw with h | h
     ·exact .inl h
     ·right; simp at h; omega
    ·split at hw
     ·rcases ih _ _ _ ws w hw with h | h
      ·exact .inl h
      ·right; simp at h; omega
     ·split at hw
      ·rcases ih _ _ _ ws w hw with h | h
       ·exact .inl h
       ·right; simp at h; omega
      ·rcases ih _ _ _ ws w hw with h | h
       ·exact .inl h
       ·right; simp at h; omega
theorem split_sm (l : List UInt8) (h : l.length ≤ 90000) : Sm ((splitL l).1.map mkW) ∧ ((splitL l).1.map mkW).length ≤ 90001 := by
 unfold splitL
 split
 ·refine ⟨fun w hw => ?_, ?_⟩
  ·obtain ⟨x, hx, rfl⟩ := List.mem_map.1 hw
   rw [ba_size]
   rcases refS_wlen l [] false false [] x hx with q | q
   ·cases q
   ·simp at q; omega
  ·rw [List.length_map]
   have := refS_len l [] false false []
   simp at this; omega
 ·exact ⟨fun w hw => by simp at hw, by simp⟩
/-! ### steps -/
abbrev plainL : List (Int × ByteArray) := [(3, mkW [109, 105, 103, 114, 97, 116, 101]), (4, mkW [116, 105, 99, 107]), (5, mkW [99, 111, 108, 108, 101, 99, 116]), (6, mkW [102, 114, 101, 101])]
theorem plain_f (k : Nat) : story_plain.f k = some plainL := rfl
theorem plain_one (w : ByteArray) : oneV w plainL = true := oneV_t w _ (by decide)
abbrev SR : Type := (Sp × Bool) ⊕ (Sp × List ByteArray × Bool)
def sOf : SR → Sp := Sum.elim (fun r => r.1) (fun r => r.1)
def sBad : SR → Bool := Sum.elim (fun r => r.2) (fun r => r.2.2)
theorem okOZ : OkO Z_api_Op := { max := ok0, row := no_v, lo := no_v, hi := no_v, ch := okCZ }
theorem okSZ : OkS Z_api_Step := { at' := ok0, op := okOZ }
theorem step_any (l : List ByteArray) (hl : l.length ≤ 100000) (hs : Sm l) (k : Nat) (hk : 16000000 ≤ k) : ∃ r : SR, sr_step.f k l false = some r ∧ OkS (sOf r) := by
 have s1 := sm_tl hs
 have s2 := sm_tl s1
 have n1 := fun b => rnumber_w l.tail s1 b k (by omega)
 obtain ⟨ro, o1, o2⟩ := op_any l.tail.tail (by simp only [List.length_tail]; omega) s2 (nB l.tail (false || l.isEmpty)) k (by omega)
 simp only [sr_step.f, sr_step.c, next_f, n1, o1, plain_f, plain_one, cond_true, os, ofs]
 refine ex_bif (fun _ => ?_) fun _ => ex_bif (fun _ => ?_) fun _ => ex_bif (fun _ => ?_) fun _ => ?_
 ·cases ro with
  | inl r => exact ⟨_, rfl, by exact { at' := wn_in _, op := o2 }⟩
  | inr r => exact ⟨_, rfl, by exact { at' := wn_in _, op := o2 }⟩
 ·exact ⟨_, rfl, by exact { at' := wn_in _, op := okOZ }⟩
 ·exact ⟨_, rfl, by exact { at' := ok0, op := okOZ }⟩
 ·exact ⟨_, rfl, by exact okSZ⟩
structure SmallS (s : Sp) : Prop where
 ch : smallC s.2.2.1.2.2.2.2.2.2.1
 row : s.2.2.1.2.2.1.length ≤ 8
 lo : s.2.2.1.2.2.2.1.length ≤ 8
 hi : s.2.2.1.2.2.2.2.1.length ≤ 8
theorem smallZ : SmallS Z_api_Step := ⟨⟨by simp, by simp⟩, by simp, by simp, by simp⟩
structure StB (ws : List ByteArray) (t : Sp) : Prop where
 prog : ∀ k, 16000000 ≤ k → ∃ r : SR, sr_step.f k ws false = some r ∧ sOf r = t ∧ sBad r = false
theorem linP_p {s : Sp} {w : ByteArray} (h : plainW s.1 = some w) : linP s = (0, [w]) := by unfold linP; rw [h]
theorem linP_1 {s : Sp} (h : s.1 = 1) : linP s = sq (0, [mkW [97, 115, 107]]) (sq (numP s.2.1) (opP s.2.2.1)) := by
 have hp : plainW s.1 = none := by rw [h]; rfl
 unfold linP; rw [hp]; simp only [if_pos h]
theorem linP_2 {s : Sp} (h : s.1 = 2) : linP s = sq (0, [mkW [114, 117, 110]]) (numP s.2.1) := by
 have hp : plainW s.1 = none := by rw [h]; rfl
 unfold linP; rw [hp]; simp only [if_neg (show ¬ s.1 = 1 by omega), if_pos h]
theorem linP_0 {s : Sp} (h : (linP s).1 = 0) : (s.1 = 3 ∨ s.1 = 4 ∨ s.1 = 5 ∨ s.1 = 6) ∨ s.1 = 1 ∨ s.1 = 2 := by
 by_cases c : s.1 = 3 ∨ s.1 = 4 ∨ s.1 = 5 ∨ s.1 = 6
 ·exact .inl c
 ·by_cases c1 : s.1 = 1
  ·exact .inr (.inl c1)
  ·by_cases c2 : s.1 = 2
   ·exact .inr (.inr c2)
   ·exfalso
    have hp : plainW s.1 = none := by
     unfold plainW
     rw [if_neg (by omega), if_neg (by omega), if_neg (by omega), if_neg (by omega)]
    unfold linP at h
    rw [hp] at h
    simp only [if_neg c1, if_neg c2] at h
    cases h
theorem plain_back (a : Int) (w : ByteArray) (hw : plainW a = some w) (h1 : findV w plainL = some a) (h2 : (w.toList == (mkW [97, 115, 107]).toList) = false) (h3 : (w.toList == (mkW [114, 117, 110]).toList) = false)
  {s : Sp} (hs : OkS s) (ha : s.1 = a) : ∃ t, OkS t ∧ linP t = linP s ∧ t.1 = s.1 ∧ SmallS t ∧ StB (linP s).2 t := by
 have e : linP s = (0, [w]) := linP_p (by rw [ha]; exact hw)
 rw [e]
 refine ⟨(a, 0, Z_api_Op, ()), { at' := ok0, op := okOZ }, linP_p hw, ha.symm, ⟨⟨by simp, by simp⟩, by simp, by simp, by simp⟩, ⟨fun k hk => ?_⟩⟩
 simp only [sr_step.f, sr_step.c, next_f, hdW, List.tail_cons, List.isEmpty_cons, Bool.or_false, h2, h3, plain_f, plain_one, h1, Option.isSome_some, Option.getD_some, cond_true, cond_false, os, ofs]
 exact ⟨_, rfl, rfl, rfl⟩
theorem step_back {s : Sp} (hs : OkS s) (h : (linP s).1 = 0) : ∃ t, OkS t ∧ linP t = linP s ∧ t.1 = s.1 ∧ SmallS t ∧ StB (linP s).2 t := by
 rcases linP_0 h with (q | q | q | q) | q | q
 ·refine plain_back 3 (mkW [109, 105, 103, 114, 97, 116, 101]) rfl (by rw [findV_E]; decide) (by rw [wq]; decide) (by rw [wq]; decide) hs q
 ·refine plain_back 4 (mkW [116, 105, 99, 107]) rfl (by rw [findV_E]; decide) (by rw [wq]; decide) (by rw [wq]; decide) hs q
 ·refine plain_back 5 (mkW [99, 111, 108, 108, 101, 99, 116]) rfl (by rw [findV_E]; decide) (by rw [wq]; decide) (by rw [wq]; decide) hs q
 ·refine plain_back 6 (mkW [102, 114, 101, 101]) rfl (by rw [findV_E]; decide) (by rw [wq]; decide) (by rw [wq]; decide) hs q
 ·have hsm := sm_gd (gd_lin hs) h
  rw [linP_1 q] at h hsm ⊢
  replace h := (sq_0.1 h).2
  have hn := (sq_0.1 h).1
  replace h := (sq_0.1 h).2
  obtain ⟨t, t1, t2, t3, t4, t5, t6, t7⟩ := op_back hs.op h
  obtain ⟨w1, w2⟩ := wn_dig s.2.1 hn
  have hw : (sq (0, [mkW [97, 115, 107]]) (sq (numP s.2.1) (opP s.2.2.1))).2 = mkW [97, 115, 107] :: mkW (digL s.2.1) :: (opP s.2.2.1).2 := rfl
  rw [hw] at hsm ⊢
  have s1 := sm_tl hsm
  refine ⟨(1, s.2.1, t, ()), { at' := hs.at', op := t1 }, ?_, q.symm, ⟨t3, t4, t5, t6⟩, ⟨fun k hk => ?_⟩⟩
  ·rw [linP_1 rfl]
   show sq (0, [mkW [97, 115, 107]]) (sq (numP s.2.1) (opP t)) = _
   rw [t2]
  ·have n1 := rnumber_w (mkW (digL s.2.1) :: (opP s.2.2.1).2) s1 false k (by omega)
   have nb : nB (mkW (digL s.2.1) :: (opP s.2.2.1).2) false = false := by
    show (wne (mkW (digL s.2.1)) != 0) = false
    rw [w2]; rfl
   have wh : wn (hdW (mkW (digL s.2.1) :: (opP s.2.2.1).2)) = s.2.1 := w1
   rw [wh, nb] at n1
   have n1 : sr_number.f k (mkW (digL s.2.1) :: (opP s.2.2.1).2) false = some (s.2.1, (opP s.2.2.1).2, false) := n1
   obtain ⟨r, r1, r2, r3⟩ := t7.prog k (by omega)
   simp only [sr_step.f, sr_step.c, next_f, hdW, List.tail_cons, List.isEmpty_cons, Bool.or_false, wq, beq_self_eq_true, n1, r1, cond_true, os, ofs]
   cases r with
   | inl r => obtain rfl := r2; exact ⟨_, rfl, rfl, r3⟩
   | inr r => obtain rfl := r2; exact ⟨_, rfl, rfl, r3⟩

 ·have hsm := sm_gd (gd_lin hs) h
  rw [linP_2 q] at h hsm ⊢
  have hn := (sq_0.1 h).2
  obtain ⟨w1, w2⟩ := wn_dig s.2.1 hn
  have hw : (sq (0, [mkW [114, 117, 110]]) (numP s.2.1)).2 = [mkW [114, 117, 110], mkW (digL s.2.1)] := rfl
  rw [hw] at hsm ⊢
  have s1 := sm_tl hsm
  refine ⟨(2, s.2.1, Z_api_Op, ()), { at' := hs.at', op := okOZ }, by rw [linP_2 rfl], q.symm, ⟨⟨by simp, by simp⟩, by simp, by simp, by simp⟩, ⟨fun k hk => ?_⟩⟩
  ·have n1 := rnumber_w [mkW (digL s.2.1)] s1 false k (by omega)
   have nb : nB [mkW (digL s.2.1)] false = false := by
    show (wne (mkW (digL s.2.1)) != 0) = false
    rw [w2]; rfl
   have wh : wn (hdW [mkW (digL s.2.1)]) = s.2.1 := w1
   rw [wh, nb] at n1
   have n1 : sr_number.f k [mkW (digL s.2.1)] false = some (s.2.1, [], false) := n1
   simp only [sr_step.f, sr_step.c, next_f, hdW, List.tail_cons, List.isEmpty_cons, Bool.or_false, wq, q_run_ask, beq_self_eq_true, n1, cond_true, cond_false, os, ofs]
   exact ⟨_, rfl, rfl, rfl⟩

/-! ### lines -/
theorem words_back (ws : List ByteArray) : (ws.map (·.data.toList)).map mkW = ws := by
 rw [List.map_map]
 exact (List.map_congr_left fun s _ => (ba_of s).symm).trans (List.map_id' _)
def IsLine (line : List UInt8) (s : Sp) : Prop := OkS s ∧ (linP s).1 = 0 ∧ jn (linP s).2 = line
theorem txt_ok {p : P2} (h : p.1 = 0) : txtP p = (mkW (jn p.2), 0) := by unfold txtP; rw [if_pos h]
theorem read_ok {line : List UInt8} {s : Sp} (h : IsLine line s) : ∃ t, IsLine line t ∧ t.1 = s.1 ∧ linP t = linP s ∧ SmallS t ∧ ∀ k, 17000000 ≤ k → story_Read.f k (mkW line) = some (t, 0) := by
 obtain ⟨hs, h0, rfl⟩ := h
 obtain ⟨t, t1, t2, t3, t4, t5⟩ := step_back hs h0
 have hl := line_len hs h0
 have hsp := split_lin hs h0
 have he : encS (splitL (jn (linP s).2)) = ((linP s).2, 0) := by
  rw [hsp]; show ((_ : List (List UInt8)).map mkW, _) = _
  rw [words_back]
 refine ⟨t, ⟨t1, by rw [t2]; exact h0, by rw [t2]⟩, t3, t2, t4, fun k hk => ?_⟩
 have a1 := split_eq (jn (linP s).2) (by omega) k (by omega)
 rw [he] at a1
 obtain ⟨r, r1, r2, r3⟩ := t5.prog k (by omega)
 have l1 := line_eq t t1 k (by omega)
 have hx : txtP (linP t) = (mkW (jn (linP s).2), 0) := by rw [t2]; exact txt_ok h0
 rw [hx] at l1
 have z : ((0 : Int) != 0) = false := rfl
 ·cases r with
  | inl r =>
   obtain rfl := r2
   have r3 : r.2 = false := r3
   have l1 : story_Line.f k r.1 = some (mkW (jn (linP s).2), 0) := l1
   simp only [story_Read.f, story_Read.c, a1, r1, l1, r3, z, beq_self_eq_true, Bool.not_true, cond_false, os, ofs, Sum.elim_inl]
   rfl
  | inr r =>
   obtain rfl := r2
   have r3 : r.2.2 = false := r3
   have l1 : story_Line.f k r.1 = some (mkW (jn (linP s).2), 0) := l1
   simp only [story_Read.f, story_Read.c, a1, r1, l1, r3, z, beq_self_eq_true, Bool.not_true, cond_false, os, ofs, Sum.elim_inr]
   rfl

theorem txt_no {p : P2} {line : List UInt8} (h : ¬ (p.1 = 0 ∧ jn p.2 = line)) : (txtP p).2 = 0 → ((txtP p).1.toList == (mkW line).toList) = false := by
 unfold txtP
 by_cases c : p.1 = 0
 ·rw [if_pos c]
  intro _
  rw [wq]
  exact beq_eq_false_iff_ne.2 fun e => h ⟨c, e⟩
 ·rw [if_neg c]
  intro e
  exact absurd e c
theorem read_no {line : List UInt8} (hl : line.length ≤ 90000) (h : ∀ s, ¬ IsLine line s) (k : Nat) (hk : 17000000 ≤ k) : story_Read.f k (mkW line) = some (Z_api_Step, if (splitL line).2 = 0 then 4 else (splitL line).2) := by
 obtain ⟨s1, s2⟩ := split_sm line hl
 have a1 := split_eq line (by omega) k (by omega)
 have e : encS (splitL line) = ((splitL line).1.map mkW, (splitL line).2) := rfl
 rw [e] at a1
 by_cases c : (splitL line).2 = 0
 ·rw [if_pos c]
  rw [c] at a1
  have z : ((0 : Int) != 0) = false := rfl
  obtain ⟨r, r1, r2⟩ := step_any _ (by omega) s1 k (by omega)
  have l1 := line_eq (sOf r) r2 k (by omega)
  have n1 := txt_no (p := linP (sOf r)) (line := line) fun ⟨x, y⟩ => h _ ⟨r2, x, y⟩
  ·have fin : ∀ (bad : Bool) (x : Option (Sp × Int)), (bif bad then some (Z_api_Step, (4 : Int)) else (bif ((txtP (linP (sOf r))).2 != (0 : Int)) then some (Z_api_Step, (4 : Int)) else (bif (!((txtP (linP (sOf r))).1.toList == (mkW line).toList)) then some (Z_api_Step, (4 : Int)) else x))) = some (Z_api_Step, (4 : Int)) := by
    intro bad x
    cases bad with
    | true => rfl
    | false =>
     rw [cond_false]
     cases hb : ((txtP (linP (sOf r))).2 != (0 : Int)) with
     | true => rfl
     | false => rw [cond_false, n1 (by simpa using hb)]; rfl
   cases r with
   | inl r =>
    have l1 : story_Line.f k r.1 = some (txtP (linP (sOf (Sum.inl r)))) := l1
    simp only [story_Read.f, story_Read.c, a1, r1, l1, z, cond_false, os, ofs, Sum.elim_inl]
    exact fin _ _
   | inr r =>
    have l1 : story_Line.f k r.1 = some (txtP (linP (sOf (Sum.inr r)))) := l1
    simp only [story_Read.f, story_Read.c, a1, r1, l1, z, cond_false, os, ofs, Sum.elim_inr]
    exact fin _ _

 ·rw [if_neg c]
  have z : ((splitL line).2 != 0) = true := bne_iff_ne.2 c
  ·simp only [story_Read.f, story_Read.c, a1, z, cond_true, os, ofs]

theorem read_both (line : List UInt8) (hl : line.length ≤ 90000) : ∃ t e, SmallS t ∧ (e = 0 → IsLine line t) ∧ (¬ e = 0 → t = Z_api_Step) ∧ ∀ k, 17000000 ≤ k → story_Read.f k (mkW line) = some (t, e) := by
 by_cases h : ∃ s, IsLine line s
 ·obtain ⟨s, h⟩ := h
  obtain ⟨t, t1, _, _, t2, t3⟩ := read_ok h
  exact ⟨t, 0, t2, fun _ => t1, fun q => absurd rfl q, t3⟩
 ·refine ⟨Z_api_Step, _, smallZ, fun q => ?_, fun _ => rfl, fun k hk => read_no hl (fun s hs => h ⟨s, hs⟩) k hk⟩
  exfalso
  split at q
  ·cases q
  ·rename_i c; exact c q
end Go.Proofs.YtimadphjdkjgaaaDoor.Aev
