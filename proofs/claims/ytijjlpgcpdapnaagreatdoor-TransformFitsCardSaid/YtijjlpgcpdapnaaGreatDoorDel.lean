import Derived.Test.YtijjlpgcpdapnaaGreatDoorAevZ
import Derived.WalkKit
import Derived.Below
import Derived.Deep.RegionLaw
import Derived.Laws.CopyRow

/- slices.Delete at a row of one's own: what is of no program: an append in place, rows cut, the contract. -/
namespace Go.Proofs.YtijjlpgcpdapnaaGreatDoor.Aev
set_option linter.unusedVariables false
set_option linter.unusedSimpArgs false
set_option maxRecDepth 100000
open Go
theorem step_append_row {P : Program} {ops : Array Oper} {o : Oper} {a : Act} {w : World} {K : Act → World → Prop} {Q : Exit → Act → World → Prop} {E : Prop}
  (hg : o.guard = none) (s x : Operand) (t : TypeId) (hop : o.op = Op.call { callee := Callee.builtin Builtin.append, args := #[s, x], argTypes := #[t, t] })
  (e : TypeId) (i : TypeInfo) (h1 : P.underlying t = some (.slice e)) (h2 : P.info? e = some i)
  (b n cap m : Nat) (hs : a.eval s = .slice (some ⟨b, 0, none⟩) n cap) (v : Value) (news : List Value) (hx : a.eval x = v) (hsrc : Src P i.size t v m news w)
  (hroom : n + m ≤ cap) {vs : Array Value} {el : TypeId} (hb : w.heap[b]? = some (.cells vs el (0, 0))) (hsz : cap * i.size ≤ vs.size)
  (hK : K (a.put o.dst (.slice (some ⟨b, 0, none⟩) (n + m) cap)) (w.setRow b (vs.toList.take (n * i.size) ++ news ++ vs.toList.drop (n * i.size + news.length)).toArray)) :
  if Region.wanted o (yielded ops a.tmps) = true then Oper.wp P o a w K Q else E := by
 have hw : Region.wanted o (yielded ops a.tmps) = true := by simp [Region.wanted, hg]
 rw [if_pos hw]
 subst hx
 have hrun := append_room (P := P) (w := w) (t := t) (tx := t) (ty := o.type) h1 h2 hsrc hroom hb hsz
 have hx : (execOp a.eval o).run P w = .ok (.value (.slice (some ⟨b, 0, none⟩) (n + m) cap)) (w.setRow b (vs.toList.take (n * i.size) ++ news ++ vs.toList.drop (n * i.size + news.length)).toArray) := by
  simp only [execOp, hop, resolve, pure_bind, invoke, builtin, List.map_toArray, List.map_cons, List.map_nil, Sem.run_bind, hs, hrun, Result.andThen]
  rfl
 unfold Oper.wp
 rw [hx, Oper.upon_value]
 exact hK
theorem del_ok {P : Program} {f : FuncId} {T : Ty} (hent : ∀ args w, (callFunc f args).run P w = .ok (.enter f args) w)
  (hcalls : ∀ (b len cap i j : Nat) (w : World) {vs : Array Value} {el : TypeId}, w.heap[b]? = some (.cells vs el (0, 0)) → vs.size = cap * T.size → i ≤ j → j ≤ len → len ≤ cap → (∀ u ∈ vs.toList.take (len * T.size), u.oneCell' = true) →
   Calls P f #[.slice (some ⟨b, 0, none⟩) len cap, .int .i64 i, .int .i64 j] w fun e w' => e = .returned (.slice (some ⟨b, 0, none⟩) (len - (j - i)) cap) ∧
    w'.os = w.os ∧ w'.tape = w.tape ∧ w'.output = w.output ∧ w'.heap.size = w.heap.size ∧ (∀ k, k ≠ b → w'.heap[k]? = w.heap[k]?) ∧
    ∃ arr, w'.heap[b]? = some (.cells arr el (0, 0)) ∧ arr.size = vs.size ∧ arr.toList.take ((len - (j - i)) * T.size) = vs.toList.take (i * T.size) ++ (vs.toList.drop (j * T.size)).take ((len - j) * T.size)) :
  CtOK P f (delCt T) := by
 intro tvs blks res h w S ρ H vals hm hv
 simp only [delCt] at h
 split at h
 ·rename_i i j u xs
  split at h
  ·rename_i hu
   subst hu
   cases hc : (decide (@LE.le Int _ 0 i) && decide (@LE.le Int _ i j)) && decide (@LE.le Int _ j (List.length xs : Int)) with
   | false => rw [hc] at h; cases h
   | true =>
    rw [hc] at h
    simp only [cond_true, Option.some.injEq] at h
    subst h
    simp only [Bool.and_eq_true, decide_eq_true_eq] at hc
    obtain ⟨⟨c1, c2⟩, c3⟩ := hc
    have c1 : @LE.le Int _ 0 i := c1
    have c2 : @LE.le Int _ i j := c2
    have c3 : @LE.le Int _ j (List.length xs : Int) := c3
    obtain ⟨v0, m0, rfl, h0, hv⟩ := All2.cons_left hv
    obtain ⟨v1, m1, rfl, h1, hv⟩ := All2.cons_left hv
    obtain ⟨v2, m2, rfl, h2, hv⟩ := All2.cons_left hv
    cases All2.nil_left hv
    have h1 := rep_i h1
    have h2 := rep_i h2
    subst h1; subst h2
    obtain ⟨hρ0, _⟩ := h0
    obtain ⟨v, hρ, ⟨b, hH, hrow⟩ | ⟨hx, _⟩⟩ := hm.rep 0 (.own u true xs) rfl
    ·rw [hρ0] at hρ; cases hρ
     obtain ⟨cap, vs, el, rfl, k2, k3, k4, k5⟩ := rowOwn_rows hrow
     have hi : ((i.toNat : Nat) : Int) = i := by omega
     have hj : ((j.toNat : Nat) : Int) = j := by omega
     have hc := hcalls b xs.length cap i.toNat j.toNat w k3 k4 (by omega) (by omega) k2 k5.one
     rw [hi, hj] at hc
     left
     refine ⟨hent _ _, hc.mono ?_⟩
     rintro e w' ⟨rfl, q1, q2, q3, q4, q5, arr, q6, q7, q8⟩
     have hS : ∀ k, S k → w'.heap[k]? = w.heap[k]? := fun k hk => q5 k (fun e => hm.apart 0 (.own u true xs) b rfl hH (e ▸ hk))
     have hyl : (List.take i.toNat xs ++ List.drop j.toNat xs).length = xs.length - (j.toNat - i.toNat) := by simp; omega
     have hro : RowOwn w' S u (.slice (some ⟨b, 0, none⟩) (xs.length - (j.toNat - i.toNat)) cap) (List.take i.toNat xs ++ List.drop j.toNat xs) b := by
      rw [← hyl]
      refine rows_rowOwn (by rw [hyl]; omega) q6 (by rw [q7, k4]) ?_
      rw [hyl, q8]
      have r1 := k5.take i.toNat
      have r2 := k5.drop j.toNat
      have e1 : (vs.toList.take (xs.length * u.size)).take (i.toNat * u.size) = vs.toList.take (i.toNat * u.size) := by
       rw [List.take_take, Nat.min_eq_left (Nat.mul_le_mul_right _ (by omega))]
      have e2 : (vs.toList.take (xs.length * u.size)).drop (j.toNat * u.size) = (vs.toList.drop (j.toNat * u.size)).take ((xs.length - j.toNat) * u.size) := by
       rw [List.drop_take, Nat.sub_mul]
      rw [e1] at r1
      rw [e2] at r2
      exact (r1.append r2).mono (fun _ x => x) hS
     have only : ∀ (n : Nat) (B : Blk), ([some (Blk.own u true (List.take i.toNat xs ++ List.drop j.toNat xs))] : List (Option Blk))[n]? = some (some B) → n = 0 ∧ Blk.own u true (List.take i.toNat xs ++ List.drop j.toNat xs) = B := by
      intro n B hB
      cases n with
      | zero => exact ⟨rfl, by simpa using hB⟩
      | succ n => simp at hB
     refine ⟨_, S, fun n => if n = 0 then some (.slice (some ⟨b, 0, none⟩) (xs.length - (j.toNat - i.toNat)) cap) else none, fun _ => some b, rfl, ?_, ?_⟩
     ·refine { rep := ?_, sep := ?_, apart := ?_, homes := ?_, old := fun k hk => by rw [q4]; exact hm.old k hk, never := ?_, s0 := fun _ x => x, smine := fun k hk => .inl hk, names := fun n v hn => by simp [pkgCx, delCt] at hn, os := q1, tape := q2, output := q3, size := by rw [q4]; exact Nat.le_refl _, same := ?_, gl := hm.gl.mono (fun _ x => x) hS }
      ·intro n B hB
       obtain ⟨rfl, rfl⟩ := only n B hB
       exact ⟨_, rfl, .inl ⟨b, rfl, hro⟩⟩
      ·intro n m B C b' hB hC _ _
       rw [(only n B hB).1, (only m C hC).1]
      ·intro n B b' hB hb'
       cases hb'
       exact hm.apart 0 (.own u true xs) b rfl hH
      ·intro n B b' hB hb'
       cases hb'
       exact hm.homes 0 (.own u true xs) b rfl hH
      ·intro n hn
       cases n with
       | zero => simp at hn
       | succ n => rfl
      ·intro k hk hM
       refine q5 k (fun e => hM ⟨0, .own u true xs, rfl, e ▸ hH⟩)
     ·exact ⟨rfl, _, _, _, rfl⟩
    ·cases hx
  ·cases h
 ·cases h
end Go.Proofs.YtijjlpgcpdapnaaGreatDoor.Aev
