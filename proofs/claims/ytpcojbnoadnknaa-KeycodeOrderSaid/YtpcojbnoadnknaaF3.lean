/- By a program of this session (AEV): functions of the program as plain functions, and that the machine does what they say. -/
import Derived.Test.YtpcojbnoadnknaaAevW
import Derived.Test.YtpcojbnoadnknaaProg
import Derived.Laws.Externs
import Derived.Lib.Bytealg
import Derived.Test.YtpcojbnoadnknaaF1
import Derived.Test.YtpcojbnoadnknaaF2
import Derived.Test.YtpcojbnoadnknaaAevY
import Derived.Test.YtpcojbnoadnknaaEsc
namespace Go.Proofs.Ytpcojbnoadnknaa.Aev
set_option linter.unusedVariables false
set_option linter.unusedSimpArgs false
set_option maxRecDepth 100000
set_option maxHeartbeats 4000000
open Go
/-! ### keycode_put: function 35 -/
def ct_keycode_put (g : Int → Int → Int → ByteArray → (List Int) → Option ((List Int))) : Ct where
  nin := 0
  mv := [0]
  F := fun tvs blks {β} K => match tvs, blks with
    | [.v (.one (.own 0)), .v (.agg [(.d (.int .i64) a0), (.d (.int .i64) a1), (.d (.int .u64) a2), (.d .str a3)])], [.own (.int .u8) false a4] => (g a0 a1 a2 a3 a4).bind fun r => K ⟨.v (.one (.own 0)), [some (.own (.int .u8) false r)]⟩
    | [.v (.one (.raw (.slice none 0 0))), .v (.agg [(.d (.int .i64) a0), (.d (.int .i64) a1), (.d (.int .u64) a2), (.d .str a3)])], [] => (g a0 a1 a2 a3 []).bind fun r => K ⟨.v (.one (.own 0)), [some (.own (.int .u8) false r)]⟩
    | _, _ => none
  legit := fun tvs blks K r h => by
    split at h
    · obtain ⟨x, hx, hk⟩ := Option.bind_eq_some_iff.1 h
      refine ⟨_, ?_, hk⟩
      simp only [hx, Option.bind_some]
    · obtain ⟨x, hx, hk⟩ := Option.bind_eq_some_iff.1 h
      refine ⟨_, ?_, hk⟩
      simp only [hx, Option.bind_some]
    · simp at h
def seg_keycode_put_0 (g : ByteArray → (List Int) → Option ((List Int))) : Seg where
  path := [4, 1, 2, 1, 3, 1, 3, 1, 3, 1, 4, 1, 0, 1, 1]
  prep := []
  keep := [2, 42]
  F := fun tvs blks {β} K => match tvs, blks with
    | [.v (.one (.ptr 0 0)), .v (.one (.fn 61 [(1, 0)]))], [some (.box [(.own 2)]), some (.box [(.d .str x0)]), some (.own (.int .u8) false x1)] => (g x0 x1).bind fun r => K ⟨.v (.one (.own 0)), [some (.own (.int .u8) false r)]⟩
    | _, _ => none
  legit := fun tvs blks K r h => by
    split at h
    · obtain ⟨x, hx, hk⟩ := Option.bind_eq_some_iff.1 h
      refine ⟨_, ?_, hk⟩
      simp only [hx, Option.bind_some]
    · simp at h
noncomputable def env_keycode_put (g51 : Int → (List Int) → Option ((List Int))) (g52 : Int → Option Int) (g53 : ByteArray → Option ByteArray) (s0 : ByteArray → (List Int) → Option ((List Int))) : FEnv := { P := Go.Proofs.Try.prog, ct := fun m => if m = 51 then some (ct_keycode_put8 g51) else if m = 52 then some (ct_reals_Key g52) else if m = 53 then some (ct_keycode_escaped g53) else none, N := 49, body := Go.Proofs.Try.f35.body.getD .skip, rvs := [.tmp 4], rts := [62], nin := 0, rmv := [0], segs := [seg_keycode_put_0 s0] }
def keycode_put.c {β : Type} (g51 : Int → (List Int) → Option ((List Int))) (g52 : Int → Option Int) (g53 : ByteArray → Option ByteArray) (s0 : ByteArray → (List Int) → Option ((List Int))) (a0 : Int) (a1 : Int) (a2 : Int) (a3 : ByteArray) (a4 : List Int) (ret : ((List Int)) → Option β) : Option β := (bif (decide ((((List.length a4) + (1 : Nat)) * (1 : Nat)) ≤ (35184372088832 : Nat))) then (bif (a0 == (1 : Int)) then (bif (decide ((((List.length (a4 ++ [(IntKind.wrap IntKind.u8 a0)])) + (1 : Nat)) * (1 : Nat)) ≤ (35184372088832 : Nat))) then (ret (((a4 ++ [(IntKind.wrap IntKind.u8 a0)]) ++ [(IntKind.wrap IntKind.u8 a1)]))) else none) else (bif (a0 == (2 : Int)) then ((g51 (IntKind.wrap IntKind.u64 ((BitVec.toNat ((BitVec.ofInt (64 : Nat) (IntKind.wrap IntKind.u64 a1)) ^^^ (BitVec.ofInt (64 : Nat) (9223372036854775808 : Int)))) : Int)) (a4 ++ [(IntKind.wrap IntKind.u8 a0)])).bind fun r0 => (ret (r0))) else (bif (a0 == (3 : Int)) then ((g52 a2).bind fun r1 => ((g51 r1 (a4 ++ [(IntKind.wrap IntKind.u8 a0)])).bind fun r2 => (ret (r2)))) else (bif (a0 == (4 : Int)) then (bif (a0 == (4 : Int)) then ((g53 a3).bind fun r3 => ((s0 r3 (a4 ++ [(IntKind.wrap IntKind.u8 a0)])).bind ret)) else (ret ((a4 ++ [(IntKind.wrap IntKind.u8 a0)])))) else (bif (a0 == (5 : Int)) then ((g53 a3).bind fun r4 => ((s0 r4 (a4 ++ [(IntKind.wrap IntKind.u8 a0)])).bind ret)) else (ret ((a4 ++ [(IntKind.wrap IntKind.u8 a0)])))))))) else none)
theorem keycode_put.c_bind {β : Type} (g51 : Int → (List Int) → Option ((List Int))) (g52 : Int → Option Int) (g53 : ByteArray → Option ByteArray) (s0 : ByteArray → (List Int) → Option ((List Int))) (a0 : Int) (a1 : Int) (a2 : Int) (a3 : ByteArray) (a4 : List Int) (ret : ((List Int)) → Option β) : keycode_put.c g51 g52 g53 s0 a0 a1 a2 a3 a4 ret = (keycode_put.c g51 g52 g53 s0 a0 a1 a2 a3 a4 some).bind ret := by
  simp only [keycode_put.c, bif_bind, sum_bind, Option.bind_assoc, Option.bind_some, Option.bind_none, Option.bind_fun_some]
theorem keycode_put.ev (g51 : Int → (List Int) → Option ((List Int))) (g52 : Int → Option Int) (g53 : ByteArray → Option ByteArray) (s0 : ByteArray → (List Int) → Option ((List Int))) (a0 : Int) (a1 : Int) (a2 : Int) (a3 : ByteArray) (a4 : List Int) : evAt (env_keycode_put g51 g52 g53 s0) [] [0, 1] [.v (.one (.own 0)), .v (.agg [(.d (.int .i64) a0), (.d (.int .i64) a1), (.d (.int .u64) a2), (.d .str a3)])] [some (.own (.int .u8) false a4)] some = keycode_put.c g51 g52 g53 s0 a0 a1 a2 a3 a4 (fun r => some ⟨.v (.one (.own 0)), [some (.own (.int .u8) false r)]⟩) := by
  kernel_rfl
theorem keycode_put.ev_nil (g51 : Int → (List Int) → Option ((List Int))) (g52 : Int → Option Int) (g53 : ByteArray → Option ByteArray) (s0 : ByteArray → (List Int) → Option ((List Int))) (a0 : Int) (a1 : Int) (a2 : Int) (a3 : ByteArray) : evAt (env_keycode_put g51 g52 g53 s0) [] [0, 1] [.v (.one (.raw (.slice none 0 0))), .v (.agg [(.d (.int .i64) a0), (.d (.int .i64) a1), (.d (.int .u64) a2), (.d .str a3)])] [] some = keycode_put.c g51 g52 g53 s0 a0 a1 a2 a3 [] (fun r => some ⟨.v (.one (.own 0)), [some (.own (.int .u8) false r)]⟩) := by
  kernel_rfl
def keycode_put.s0 (k : Nat) : ByteArray → (List Int) → Option ((List Int)) := fun s xs => bif decide (xs.length + 2 * s.size + 2 ≤ 2 ^ 45) then some (xs ++ (escTo s s.size ++ [0, 0])) else none
def keycode_put.f (k : Nat) (a0 : Int) (a1 : Int) (a2 : Int) (a3 : ByteArray) (a4 : List Int) : Option ((List Int)) := keycode_put.c (keycode_put8.f k) (reals_Key.f k) (keycode_escaped.f k) (keycode_put.s0 k) a0 a1 a2 a3 a4 some
/-! the loop over escaped's bytes -/
def keycode_put.blkOf (s : ByteArray) (ys : List Int) (n : Nat) : Option (Option Blk) := [some (.box [.own 2]), some (.box [.d .str s]), some (.own (.int .u8) false ys)][n]?
noncomputable def keycode_put.bodyOps : Array Oper := match codeAt (Go.Proofs.Try.f35.body.getD .skip) [4, 1, 2, 1, 3, 1, 3, 1, 3, 1, 4, 1, 0, 1, 1] with
  | some (.rangeFunc _ _ _ (.block _ (.region _ ops _)), _) => ops
  | _ => #[]
noncomputable def keycode_put.endOps : Array Oper := match codeAt (Go.Proofs.Try.f35.body.getD .skip) [0, 1, 1, 1] with
  | some (.region _ ops _, _) => ops
  | _ => #[]
noncomputable def keycode_put.E0 : Env := { P := Go.Proofs.Try.prog, ct := fun _ => none, N := 49 }
theorem keycode_put.body_plain : plainOps keycode_put.bodyOps = true := by kernel_rfl
theorem keycode_put.end_plain : plainOps keycode_put.endOps = true := by kernel_rfl
theorem keycode_put.body_ev (s : ByteArray) (ys : List Int) (x : Int) : evOps keycode_put.E0 keycode_put.bodyOps 100 (fun st _ => ((packN 2 [] [] : AM _).run st []).map (·.1)) (List.range keycode_put.bodyOps.size)
    (stOf [2, 5] [.v (.one (.ptr 0 0)), .v (.one (.d (.int .u8) x))] [some (.box [.own 2]), some (.box [.d .str s]), some (.own (.int .u8) false ys)]) [] =
      bif decide ((ys.length + 1) * 1 ≤ 2 ^ 45) then some ([], [some (.box [.own 2]), some (.box [.d .str s]), some (.own (.int .u8) false (ys ++ [x]))]) else none := by
  kernel_rfl
theorem keycode_put.end_ev (s : ByteArray) (ys : List Int) : evOps keycode_put.E0 keycode_put.endOps 100 (fun st _ => ((do packN 0 [] [← AM.rT 4] : AM _).run st []).map (·.1)) (List.range keycode_put.endOps.size)
    (stOf [2] [.v (.one (.ptr 0 0))] [some (.box [.own 2]), some (.box [.d .str s]), some (.own (.int .u8) false ys)]) [] = some ([.v (.one (.own 0))], [some (.own (.int .u8) false ys)]) := by
  kernel_rfl
set_option maxHeartbeats 1000000 in
theorem keycode_put.s0_hand (g51 : Int → (List Int) → Option ((List Int))) (g52 : Int → Option Int) (g53 : ByteArray → Option ByteArray) (s0 : ByteArray → (List Int) → Option ((List Int))) (k : Nat) :
    SegOK (env_keycode_put g51 g52 g53 s0) Go.Proofs.Try.f35 (seg_keycode_put_0 (keycode_put.s0 k)) := by
  intro tvs blks res h c stk hc X w S ρ H a hX hR
  simp only [seg_keycode_put_0] at h hc hR
  split at h
  · rename_i s xs
    simp only [keycode_put.s0] at h
    by_cases hlen : xs.length + 2 * s.size + 2 ≤ 2 ^ 45
    · rw [decide_eq_true hlen] at h
      simp only [cond_true, Option.bind_some, Option.some.injEq] at h
      subst h
      simp only [env_keycode_put, Go.Proofs.Try.f35, Option.getD_some, codeAt, Option.some.injEq, Prod.mk.injEq] at hc
      obtain ⟨rfl, rfl⟩ := hc
      have hN : (env_keycode_put g51 g52 g53 s0).N = 49 := rfl
      have hmem : Mem X w S ρ H (keycode_put.blkOf s xs) := hR.mem
      -- the state
      obtain ⟨b0, hb0, ht2⟩ : ∃ b, ρ 0 = some (Ptr b 0) ∧ a.tmps.getD 2 undef = Ptr b 0 := hR.tmp 2 _ rfl
      obtain ⟨vs, ht42, hvs⟩ : ∃ vs : Array Value, a.tmps.getD 42 undef = .func (.func 61) #[] vs ∧ All2 (fun (p : Nat × Nat) u => ∃ b, ρ p.1 = some (Ptr b 0) ∧ u = Ptr b p.2) [(1, 0)] vs.toList := hR.tmp 42 _ rfl
      obtain ⟨u, l, hul, ⟨b1, hb1, rfl⟩, hl⟩ := All2.cons_left hvs
      rw [hl.nil_left] at hul
      obtain rfl : vs = #[Ptr b1 0] := by apply Array.toList_inj.1; rw [hul]
      -- the text's box
      have hcell : ∀ {X : Cx} {W : World} {S : Nat → Prop} {ρ1 : Nat → Option Value} {H1 : Nat → Option Nat} {blk : Nat → Option (Option Blk)}, Mem X W S ρ1 H1 blk → blk 1 = some (some (.box [.d .str s])) → ρ1 1 = some (Ptr b1 0) → W.cell? ⟨b1, 0, none⟩ = some (.string s) := by
        intro X W S ρ1 H1 blk hm hb h1
        obtain ⟨b, vs, e, _, h2, h3, h4⟩ := hm.rep 1 _ hb
        rw [h1] at h2
        simp at h2; subst h2
        obtain ⟨v, m, hv, hr, hn⟩ := All2.cons_left h4
        rw [hn.nil_left] at hv
        have hv0 : vs = #[v] := by apply Array.toList_inj.1; rw [hv]
        have : v = .string s := by simpa [RepAV, Rd] using hr
        simp [World.cell?, h3, hv0, this]
      have hc0 := hcell hmem rfl hb1
      have hb1lt : b1 < w.heap.size := by
        obtain ⟨b, vs, e, _, h2, h3, h4⟩ := hmem.rep 1 _ rfl
        rw [hb1] at h2
        simp at h2; subst h2
        exact (Array.getElem?_eq_some_iff.1 h3).1
      show Code.wp _ _ _ _ _
      refine (wpIn_wide (n := 5)).1 ?_
      obtain ⟨X1, hX1⟩ : ∃ X1, X1 = Mem.cx X w S ρ H (keycode_put.blkOf s xs) 2 := ⟨_, rfl⟩
      have hm1 : Mem X1 w S ρ H (keycode_put.blkOf s xs) := hX1 ▸ hmem.restart 2
      have hw1 : X1.w0 = w := by rw [hX1]; rfl
      have hS1 : X1.S0 = S := by rw [hX1]; rfl
      have hX0 : ∀ n, X.ρ0 n = none := by
        intro n
        cases hn : X.ρ0 n with
        | none => rfl
        | some v => exact absurd (hX n v hn) (by simp [env_keycode_put])
      have hρ1 : ∀ n v, X1.ρ0 n = some v → n < 2 := by
        intro n v hn
        rw [hX1] at hn
        simp only [Mem.cx, hX0] at hn
        split at hn
        · assumption
        · simp at hn
      have hnames : ∀ {W : World} {S' : Nat → Prop} {ρ1 : Nat → Option Value} {H1 : Nat → Option Nat} {blk : Nat → Option (Option Blk)}, Mem X1 W S' ρ1 H1 blk → ρ1 0 = some (Ptr b0 0) ∧ ρ1 1 = some (Ptr b1 0) := by
        intro W S' ρ1 H1 blk hm
        exact ⟨hm.names 0 _ (by rw [hX1]; simp [Mem.cx, hb0]), hm.names 1 _ (by rw [hX1]; simp [Mem.cx, hb1])⟩
      refine wpIn_rangeFunc_ownF (F := Fence.wide) rfl (by omega) (gf := 61) (lb := #[Ptr b1 0]) ht42 trivial (enters_of Go.Proofs.Try.func61 (by kernel_rfl) rfl) (encs := fun x : Int => #[.int .u8 x])
        (Kp := KC b1) (w0 := w) (esc_stops Fence.wide 4 trivial rfl (by omega) b1 s w hc0 hb1lt (by omega)) (fun h1 h2 => h2.trans h1) ?hKb (RowKit.Below.refl _ _) (fun _ => rfl)
        (fun pre W => ∃ S1 ρ1 H1, Mem X1 W S1 ρ1 H1 (keycode_put.blkOf s (xs ++ pre)) ∧ ∀ b, S1 b → S b ∨ ∃ (vs : Array Value) (e : TypeId) (fr : Nat × Nat), W.heap[b]? = some (Obj.cells vs e fr)) (fun _ _ _ => False) ?hI (fun _ _ _ _ _ h _ _ => h) ⟨S, ρ, H, by rw [List.append_nil]; exact hm1, fun b h => .inl h⟩
        (fun x => { tmps := (a.tmps.setIfInBounds 43 (.int .u8 x)).setIfInBounds 5 (.int .u8 x), defers := [] }) ?assign ?body ?done (fun _ _ _ _ _ _ h _ => h.elim)
      case hKb =>
        intro W l o o' hl _ _ _
        show (W.putObj l o').cell? _ = W.cell? _
        unfold World.cell?
        rw [World.putObj_heap_other (by show b1 ≠ l; omega)]
      case hI =>
        rintro pre W W' row ⟨S1, ρ1, H1, hm, hc⟩ hg hr
        have hnr : ∀ r, row = some r → ¬ S1 r := by
          intro r e hS
          obtain ⟨h1, o, h2, h3⟩ := hr r e
          rcases hc r hS with h4 | ⟨vs, e', fr, h4⟩
          · have := hmem.old r h4; omega
          · rw [h4] at h2; cases h2; simp [Obj.isCells] at h3
        refine ⟨S1, ρ1, H1, hm.turned hg hnr (by rw [hw1]; exact hr), fun b hb => ?_⟩
        rcases hc b hb with h4 | ⟨vs, e', fr, h4⟩
        · exact .inl h4
        · refine .inr ⟨vs, e', fr, ?_⟩
          rw [← h4]
          exact hg.block b (Array.getElem?_eq_some_iff.1 h4).1 (fun e => hnr b e.symm hb)
      case assign =>
        intro l x W K hK
        refine wpIn_region ?_
        have hsz : 49 ≤ a.tmps.size := hR.size
        have hv : ((a.tmps.setIfInBounds 43 (Value.int IntKind.u8 x)).getD 43 undef) = .int .u8 x := by
          rw [Array.getD_eq_getD_getElem?, Array.getElem?_setIfInBounds_self_of_lt (by omega)]; rfl
        simp [wpOpsIn, Region.wanted, Oper.wpIn]
        refine ⟨fun _ _ => trivial, ?_⟩
        rw [show (some l) = (Fence.wide.inRound l).round from rfl, Oper.semAt_plain (Fence.wide.inRound l) _ _ (by intro c h; cases h)]
        have hrun : (execOp (Act.eval { tmps := a.tmps.setIfInBounds 43 (Value.int IntKind.u8 x), defers := [] }) { dst := some 5, op := Op.assign (Operand.tmp 43), type := 5, pos := "keycode.go:57", after := #[], guard := none }).run Go.Proofs.Try.prog W = .ok (.value (.int .u8 x)) W := by
          simp [execOp, Act.eval, hv]
        exact (congrArg _ hrun).mpr hK
      case body =>
        rintro l pre x W ⟨S1, ρ1, H1, hm, hc⟩ hlt
        obtain ⟨hn0, hn1⟩ := hnames hm
        have hsz : 49 ≤ a.tmps.size := hR.size
        obtain ⟨X2, hX2⟩ : ∃ X2, X2 = Mem.cx X1 W S1 ρ1 H1 (keycode_put.blkOf s (xs ++ pre)) 2 := ⟨_, rfl⟩
        have hm2 : Mem X2 W S1 ρ1 H1 (keycode_put.blkOf s (xs ++ pre)) := hX2 ▸ hm.restart 2
        have hρ2 : ∀ n v, X2.ρ0 n = some v → n < 2 := by
          intro n v hn
          rw [hX2] at hn
          simp only [Mem.cx] at hn
          split at hn
          · assumption
          · exact hρ1 n v hn
        refine wpIn_block ?_
        have hRb : Rep X2 W S1 ρ1 H1 keycode_put.E0.N (stOf [2, 5] [.v (.one (.ptr 0 0)), .v (.one (.d (.int .u8) x))] [some (.box [.own 2]), some (.box [.d .str s]), some (.own (.int .u8) false (xs ++ pre))])
            { tmps := (a.tmps.setIfInBounds 43 (.int .u8 x)).setIfInBounds 5 (.int .u8 x), defers := [] } := by
          refine { mem := hm2, tmp := ?_, size := by simpa [keycode_put.E0] using hsz, defers := rfl }
          intro t v ht
          obtain ⟨i, h1, h2⟩ := stOf_tmp ht
          match i with
          | 0 =>
            simp at h1 h2; subst h1; subst h2
            refine ⟨b0, hn0, ?_⟩
            rw [Array.getD_eq_getD_getElem?] at ht2 ⊢
            rw [Array.getElem?_setIfInBounds_ne (by decide), Array.getElem?_setIfInBounds_ne (by decide)]
            exact ht2
          | 1 =>
            simp at h1 h2; subst h1; subst h2
            rw [Array.getD_eq_getD_getElem?, Array.getElem?_setIfInBounds_self_of_lt (by simp; omega)]
            exact rfl
          | i + 2 => simp at h1
        have hle : (xs ++ pre).length + 1 ≤ 2 ^ 45 := by simp; omega
        have hev := keycode_put.body_ev s (xs ++ pre) x
        rw [Nat.mul_one, decide_eq_true hle] at hev
        refine region_in (E := keycode_put.E0) (ds := []) (fun _ => trivial) keycode_put.body_plain hev hRb ?_
        intro st' lg a' W' S' ρ' H' hK hR' hd hM
        simp only [Option.map_eq_some_iff] at hK
        obtain ⟨r, hr, he⟩ := hK
        obtain ⟨ρ'', H'', hm3, _⟩ := packN_rep hr (st2 := st') (fun _ _ => rfl) hR'.mem hρ2 (vals := []) trivial
        rw [he] at hm3
        have hsame : ∀ b, S1 b → W'.heap[b]? = W.heap[b]? := by
          intro b hb
          have := hm3.same b (by rw [hX2]; exact hm.old b hb) (by
            rw [hX2]
            rintro ⟨n, B, h1, h2⟩
            exact hm.apart n B b h1 h2 hb)
          rw [this, hX2]; rfl
        have hm4 : Mem X2 W' (fun b => S' b ∧ (S b ∨ ∃ (vs : Array Value) (e : TypeId) (fr : Nat × Nat), W'.heap[b]? = some (Obj.cells vs e fr))) ρ'' H'' (keycode_put.blkOf s (xs ++ (pre ++ [x]))) := by
          rw [← List.append_assoc]
          refine hm3.shrink (fun b hb => ?_) (fun b hb => hb.1) (fun n B h => ⟨B, h⟩) (fun n h => h) ?_
          · have hb1 : S1 b := by rw [hX2] at hb; exact hb
            refine ⟨hm3.s0 b hb, ?_⟩
            rcases hc b hb1 with h4 | ⟨vs, e', fr, h4⟩
            · exact .inl h4
            · exact .inr ⟨vs, e', fr, (hsame b hb1).trans h4⟩
          · intro n B hB
            have := hm3.rep n B hB
            match n with
            | 0 =>
              simp [keycode_put.blkOf] at hB; subst hB
              obtain ⟨b, vs, e, h1, h2, h3, h4⟩ := this
              obtain ⟨v, m, hv, hr, hn⟩ := All2.cons_left h4
              refine ⟨b, vs, e, h1, h2, h3, ?_⟩
              rw [hv, hn.nil_left]
              exact ⟨hr, trivial⟩
            | 1 =>
              simp [keycode_put.blkOf] at hB; subst hB
              obtain ⟨b, vs, e, h1, h2, h3, h4⟩ := this
              obtain ⟨v, m, hv, hr, hn⟩ := All2.cons_left h4
              refine ⟨b, vs, e, h1, h2, h3, ?_⟩
              rw [hv, hn.nil_left]
              exact ⟨hr, trivial⟩
            | 2 =>
              simp [keycode_put.blkOf] at hB; subst hB
              obtain ⟨v, h1, ⟨b, h2, h3⟩ | ⟨h2, h3, h4, h5⟩⟩ := this
              · exact ⟨v, h1, .inl ⟨b, h2, h3⟩⟩
              · refine ⟨v, h1, .inr ⟨h2, h3, ?_, h5⟩⟩
                obtain ⟨base, len, cap, q1, q2, q3, q4, q5, q6⟩ := h4
                refine ⟨base, len, cap, q1, q2, q3, q4, q5, fun hx => ?_⟩
                obtain ⟨p, hp, hSp, hrow⟩ := q6 hx
                refine ⟨p, hp, ⟨hSp, .inr ?_⟩, hrow⟩
                obtain ⟨us, ⟨c, e, fr, hh, _⟩, _⟩ := hrow 0 (List.length_pos_iff.2 hx)
                exact ⟨c, e, fr, hh⟩
            | n + 3 => simp [keycode_put.blkOf] at hB
        have hcells : ∀ n B b, keycode_put.blkOf s (xs ++ pre) n = some (some B) → H1 n = some b → ∃ (vs : Array Value) (e : TypeId), W.heap[b]? = some (Obj.cells vs e (0, 0)) := by
          intro n B b h1 h2
          have := hm.rep n B h1
          rw [h2] at this
          exact this.cells
        show KeepsOthers W W' ∧ KC b1 W W' ∧ _
        refine ⟨⟨?_, fun k o hk ho => ?_⟩, ?_, fun b => S' b ∧ (S b ∨ ∃ (vs : Array Value) (e : TypeId) (fr : Nat × Nat), W'.heap[b]? = some (Obj.cells vs e fr)), ρ'', H'', ?_, fun b hb => hb.2⟩
        · have := hm4.size; rw [hX2] at this; exact this
        · have := hm4.same k (by rw [hX2]; exact (Array.getElem?_eq_some_iff.1 hk).1) (by
            rw [hX2]
            rintro ⟨n, B, h1, h2⟩
            obtain ⟨vs, e, h3⟩ := hcells n B k h1 h2
            rw [h3] at hk; cases hk; simp [Obj.isCells] at ho)
          rw [this, hX2]; exact hk
        · exact (hcell hm4 rfl (hm4.names 1 _ (by rw [hX2]; simp [Mem.cx, hn1]))).trans (hcell hm rfl hn1).symm
        · rw [hX2] at hm4; exact hm.chain hm4
      case done =>
        rintro D ys W hD rfl ⟨S1, ρ1, H1, hm, hc⟩ hK
        obtain ⟨hn0, hn1⟩ := hnames hm
        have hsz : 49 ≤ a.tmps.size := hR.size
        have hmX : Mem X W S1 ρ1 H1 (keycode_put.blkOf s (xs ++ (escTo s s.size ++ [0, 0]))) := hmem.chain (hX1 ▸ hm)
        obtain ⟨X2, hX2⟩ : ∃ X2, X2 = Mem.cx X W S1 ρ1 H1 (keycode_put.blkOf s (xs ++ (escTo s s.size ++ [0, 0]))) 0 := ⟨_, rfl⟩
        have hm2 : Mem X2 W S1 ρ1 H1 (keycode_put.blkOf s (xs ++ (escTo s s.size ++ [0, 0]))) := hX2 ▸ hmX.restart 0
        have hρ2 : ∀ n v, X2.ρ0 n = some v → n < 0 := by
          intro n v hn
          rw [hX2] at hn
          simp [Mem.cx, hX0] at hn
        have hcells : ∀ n B b, keycode_put.blkOf s (xs ++ (escTo s s.size ++ [0, 0])) n = some (some B) → H1 n = some b → ∃ (vs : Array Value) (e : TypeId), W.heap[b]? = some (Obj.cells vs e (0, 0)) := by
          intro n B b h1 h2
          have := hm.rep n B h1
          rw [h2] at this
          exact this.cells
        have hDlt : D < W.heap.size := (Array.getElem?_eq_some_iff.1 hK).1
        have hnM : ¬ X2.M0 D := by
          rw [hX2]
          rintro ⟨n, B, h1, h2⟩
          obtain ⟨vs, e, h3⟩ := hcells n B D h1 h2
          rw [h3] at hK; cases hK
        have hnS1 : ¬ S1 D := by
          intro hS
          rcases hc D hS with h4 | ⟨vs, e, fr, h4⟩
          · have := hmem.old D h4; omega
          · rw [h4] at hK; cases hK
        show Code.wp _ (Code.seq _ Code.ret) _ _ _
        refine (wpIn_wide (n := 5)).1 (wpIn_seq ?_)
        have hRd : Rep X2 W S1 ρ1 H1 keycode_put.E0.N (stOf [2] [.v (.one (.ptr 0 0))] [some (.box [.own 2]), some (.box [.d .str s]), some (.own (.int .u8) false (xs ++ (escTo s s.size ++ [0, 0])))]) { a with defers := [] } := by
          refine { mem := hm2, tmp := ?_, size := by simpa [keycode_put.E0] using hsz, defers := rfl }
          intro t v ht
          obtain ⟨i, h1, h2⟩ := stOf_tmp ht
          match i with
          | 0 =>
            simp at h1 h2; subst h1; subst h2
            exact ⟨b0, hn0, ht2⟩
          | i + 1 => simp at h1
        refine region_in (E := keycode_put.E0) (ds := []) (fun _ => trivial) keycode_put.end_plain (keycode_put.end_ev s _) hRd ?_
        intro st' lg a' W' S' ρ' H' hK2 hR' hd hM
        simp only [Option.map_eq_some_iff] at hK2
        obtain ⟨r, hr, he⟩ := hK2
        obtain ⟨tv, lg1, h1, h2⟩ := run_bind_some hr
        have hv4 : RepTV W' S' ρ' tv (a'.tmps.getD 4 undef) := hR'.tmp _ _ (run_rT h1)
        obtain ⟨ρ'', H'', hm3, hv3⟩ := packN_rep h2 (st2 := st') (fun _ _ => rfl) hR'.mem hρ2 (tvs := [tv]) (vals := [a'.tmps.getD 4 undef]) ⟨hv4, trivial⟩
        rw [he] at hm3 hv3
        have hKD : W'.heap[D]? = some (.deferred (some [])) := by
          rw [hm3.same D (by rw [hX2]; exact hDlt) hnM, hX2]; exact hK
        have hnS' : ¬ S' D := by
          intro hS
          rcases hm3.smine D hS with h4 | h4 | h4
          · rw [hX2] at h4; exact hnS1 h4
          · exact hnM h4
          · rw [hX2] at h4
            exact absurd h4 (Nat.not_le.2 hDlt)
        have hmf : Mem X W' S' ρ'' H'' (fun n => [some (Blk.own (Ty.int IntKind.u8) false (xs ++ (escTo s s.size ++ [0, 0])))][n]?) := by
          rw [hX2] at hm3; exact hmX.chain hm3
        refine wpIn_ret ?_
        show LeavesInM Fence.wide 5 _ _ a'.tmps _ a'.defers .returning W'
        rw [hd, hR.defers]
        refine ⟨by simp, .inl ⟨D, _, rfl, run_takeDeferred hKD, ?_⟩⟩
        refine ⟨a'.tmps.getD 4 undef, results_tmp rfl _ _ _, _, S', ρ'', H'', rfl, hmf.turned (grownBy_putObj' W' D _) (fun r e => by cases e; exact hnS') (fun r e => by cases e; exact ⟨Nat.le_trans hmem.size hD, _, hKD, rfl⟩), hv3.1⟩
    · rw [decide_eq_false hlen] at h; simp at h
  · simp at h
theorem keycode_put.is (g51 : Int → (List Int) → Option ((List Int))) (g52 : Int → Option Int) (g53 : ByteArray → Option ByteArray) (s0 : ByteArray → (List Int) → Option ((List Int))) : FnIs (env_keycode_put g51 g52 g53 s0) 35 Go.Proofs.Try.f35 := ⟨Go.Proofs.Try.func35, rfl, rfl, rfl, by decide⟩
theorem keycode_put.envok (g51 : Int → (List Int) → Option ((List Int))) (g52 : Int → Option Int) (g53 : ByteArray → Option ByteArray) (s0 : ByteArray → (List Int) → Option ((List Int))) (h51 : CtOK Go.Proofs.Try.prog 51 (ct_keycode_put8 g51)) (h52 : CtOK Go.Proofs.Try.prog 52 (ct_reals_Key g52)) (h53 : CtOK Go.Proofs.Try.prog 53 (ct_keycode_escaped g53)) : EnvOK (env_keycode_put g51 g52 g53 s0).toEnv := by
  intro f c h
  simp only [env_keycode_put] at h
  split at h
  · rename_i e; subst e; cases h; exact h51
  split at h
  · rename_i e; subst e; cases h; exact h52
  split at h
  · rename_i e; subst e; cases h; exact h53
  simp at h
theorem keycode_put.segs_ok : ∀ k, ∀ s ∈ (env_keycode_put (keycode_put8.f k) (reals_Key.f k) (keycode_escaped.f k) (keycode_put.s0 k)).segs, SegOK (env_keycode_put (keycode_put8.f k) (reals_Key.f k) (keycode_escaped.f k) (keycode_put.s0 k)) Go.Proofs.Try.f35 s
  | 0 => by
    intro s hs
    simp only [env_keycode_put, List.mem_cons, List.not_mem_nil, or_false] at hs
    rcases hs with rfl
    · exact keycode_put.s0_hand _ _ _ _  _
  | k + 1 => by
    have ih := keycode_put.segs_ok k
    intro s hs
    simp only [env_keycode_put, List.mem_cons, List.not_mem_nil, or_false] at hs
    rcases hs with rfl
    · exact keycode_put.s0_hand _ _ _ _  _
theorem keycode_put.ok (k : Nat) : CtOK Go.Proofs.Try.prog 35 (ct_keycode_put (keycode_put.f k)) := by
  refine ct_of_ev (E := env_keycode_put (keycode_put8.f k) (reals_Key.f k) (keycode_escaped.f k) (keycode_put.s0 k)) (keycode_put.is _ _ _ _ ) (keycode_put.envok _ _ _ _  (keycode_put8.ok k) (reals_Key.ok k) (keycode_escaped.ok k)) (keycode_put.segs_ok k) rfl ?_
  intro tvs blks res h
  simp only [ct_keycode_put] at h
  split at h
  · refine (keycode_put.ev (keycode_put8.f k) (reals_Key.f k) (keycode_escaped.f k) (keycode_put.s0 k) _ _ _ _ _ ).trans ?_
    rw [keycode_put.c_bind]
    exact h
  · refine (keycode_put.ev_nil (keycode_put8.f k) (reals_Key.f k) (keycode_escaped.f k) (keycode_put.s0 k) _ _ _ _ ).trans ?_
    rw [keycode_put.c_bind]
    exact h
  · simp at h

/-! ### keycode_Put: function 18 -/
def ct_keycode_Put (g : Int → Int → Int → ByteArray → Option (ByteArray × Int)) : Ct where
  nin := 0
  mv := []
  F := fun tvs blks {β} K => match tvs, blks with
    | [.v (.agg [(.d (.int .i64) a0), (.d (.int .i64) a1), (.d (.int .u64) a2), (.d .str a3)])], [] => (g a0 a1 a2 a3).bind fun r => K ⟨.tup [(.one (.d .str r.1)), (.one (.d (.int .i64) r.2))], []⟩
    | _, _ => none
  legit := fun tvs blks K r h => by
    split at h
    · obtain ⟨x, hx, hk⟩ := Option.bind_eq_some_iff.1 h
      refine ⟨_, ?_, hk⟩
      simp only [hx, Option.bind_some]
    · simp at h
noncomputable def env_keycode_Put (g29 : Int → Int → Int → ByteArray → Option Int) (g35 : Int → Int → Int → ByteArray → (List Int) → Option ((List Int)))  : FEnv := { P := Go.Proofs.Try.prog, ct := fun m => if m = 29 then some (ct_values_Check g29) else if m = 35 then some (ct_keycode_put g35) else none, N := 13, body := Go.Proofs.Try.f18.body.getD .skip, rvs := [.tmp 2, .tmp 3], rts := [9, 26], nin := 0, rmv := [], segs := [] }
def keycode_Put.c {β : Type} (g29 : Int → Int → Int → ByteArray → Option Int) (g35 : Int → Int → Int → ByteArray → (List Int) → Option ((List Int)))  (a0 : Int) (a1 : Int) (a2 : Int) (a3 : ByteArray) (ret : (ByteArray × Int) → Option β) : Option β := ((g29 a0 a1 a2 a3).bind fun r0 => (bif (r0 != (0 : Int)) then (ret ((ByteArray.mk (List.toArray [])), r0)) else ((g35 a0 a1 a2 a3 []).bind fun r1 => (ret ((ByteArray.mk (List.toArray (List.map (fun n => (UInt8.ofNat (Int.toNat n))) r1))), (0 : Int))))))
theorem keycode_Put.c_bind {β : Type} (g29 : Int → Int → Int → ByteArray → Option Int) (g35 : Int → Int → Int → ByteArray → (List Int) → Option ((List Int)))  (a0 : Int) (a1 : Int) (a2 : Int) (a3 : ByteArray) (ret : (ByteArray × Int) → Option β) : keycode_Put.c g29 g35  a0 a1 a2 a3 ret = (keycode_Put.c g29 g35  a0 a1 a2 a3 some).bind ret := by
  simp only [keycode_Put.c, bif_bind, sum_bind, Option.bind_assoc, Option.bind_some, Option.bind_none, Option.bind_fun_some]
theorem keycode_Put.ev (g29 : Int → Int → Int → ByteArray → Option Int) (g35 : Int → Int → Int → ByteArray → (List Int) → Option ((List Int)))  (a0 : Int) (a1 : Int) (a2 : Int) (a3 : ByteArray) : evAt (env_keycode_Put g29 g35 ) [] [0] [.v (.agg [(.d (.int .i64) a0), (.d (.int .i64) a1), (.d (.int .u64) a2), (.d .str a3)])] [] some = keycode_Put.c g29 g35  a0 a1 a2 a3 (fun r => some ⟨.tup [(.one (.d .str r.1)), (.one (.d (.int .i64) r.2))], []⟩) := by
  kernel_rfl
def keycode_Put.f (k : Nat) (a0 : Int) (a1 : Int) (a2 : Int) (a3 : ByteArray) : Option (ByteArray × Int) := keycode_Put.c (values_Check.f k) (keycode_put.f k)  a0 a1 a2 a3 some
theorem keycode_Put.is (g29 : Int → Int → Int → ByteArray → Option Int) (g35 : Int → Int → Int → ByteArray → (List Int) → Option ((List Int)))  : FnIs (env_keycode_Put g29 g35 ) 18 Go.Proofs.Try.f18 := ⟨Go.Proofs.Try.func18, rfl, rfl, rfl, by decide⟩
theorem keycode_Put.envok (g29 : Int → Int → Int → ByteArray → Option Int) (g35 : Int → Int → Int → ByteArray → (List Int) → Option ((List Int)))  (h29 : CtOK Go.Proofs.Try.prog 29 (ct_values_Check g29)) (h35 : CtOK Go.Proofs.Try.prog 35 (ct_keycode_put g35)) : EnvOK (env_keycode_Put g29 g35 ).toEnv := by
  intro f c h
  simp only [env_keycode_Put] at h
  split at h
  · rename_i e; subst e; cases h; exact h29
  split at h
  · rename_i e; subst e; cases h; exact h35
  simp at h
theorem keycode_Put.ok (k : Nat) : CtOK Go.Proofs.Try.prog 18 (ct_keycode_Put (keycode_Put.f k)) := by
  refine ct_of_ev (E := env_keycode_Put (values_Check.f k) (keycode_put.f k) ) (keycode_Put.is _ _ ) (keycode_Put.envok _ _  (values_Check.ok k) (keycode_put.ok k)) (fun s hs => by simp [env_keycode_Put] at hs) rfl ?_
  intro tvs blks res h
  simp only [ct_keycode_Put] at h
  split at h
  · refine (keycode_Put.ev (values_Check.f k) (keycode_put.f k)  _ _ _ _ ).trans ?_
    rw [keycode_Put.c_bind]
    exact h
  · simp at h

/-! ### transomlaw05_awake: function 8 -/
def ct_transomlaw05_awake (g : Option Bool) : Ct where
  nin := 0
  mv := []
  F := fun tvs blks {β} K => match tvs, blks with
    | [], [] => (g ).bind fun r => K ⟨.v (.one (.d .bool r)), []⟩
    | _, _ => none
  legit := fun tvs blks K r h => by
    split at h
    · obtain ⟨x, hx, hk⟩ := Option.bind_eq_some_iff.1 h
      refine ⟨_, ?_, hk⟩
      simp only [hx, Option.bind_some]
    · simp at h
noncomputable def env_transomlaw05_awake (g9 : ByteArray → Option (Int × Int × Int × ByteArray × ByteArray × Int)) (g11 : ByteArray → Option ((List (Int × (Int × (Int × (ByteArray × Unit))))) × Int)) (g15 : ByteArray → Option ByteArray) (g18 : Int → Int → Int → ByteArray → Option (ByteArray × Int))  : FEnv := { P := Go.Proofs.Try.prog, ct := fun m => if m = 9 then some (ct_keycode_Read g9) else if m = 11 then some (ct_keycode_ReadRow g11) else if m = 15 then some (ct_keycode_After g15) else if m = 18 then some (ct_keycode_Put g18) else none, N := 107, body := Go.Proofs.Try.f8.body.getD .skip, rvs := [.tmp 0], rts := [4], nin := 0, rmv := [], segs := [] }
def transomlaw05_awake.c {β : Type} (g9 : ByteArray → Option (Int × Int × Int × ByteArray × ByteArray × Int)) (g11 : ByteArray → Option ((List (Int × (Int × (Int × (ByteArray × Unit))))) × Int)) (g15 : ByteArray → Option ByteArray) (g18 : Int → Int → Int → ByteArray → Option (ByteArray × Int))   (ret : Bool → Option β) : Option β := ((g18 (4 : Int) (0 : Int) (0 : Int) (ByteArray.mk (List.toArray [(0 : UInt8), (1 : UInt8)]))).bind fun r0 => ((g18 (2 : Int) (-1 : Int) (0 : Int) (ByteArray.mk (List.toArray []))).bind fun r1 => ((g18 (2 : Int) (0 : Int) (0 : Int) (ByteArray.mk (List.toArray []))).bind fun r2 => (bif ((decide ((ByteArray.size r0.1) ≤ (4611686018427387903 : Nat))) && true) then ((g9 (r0.1 ++ (ByteArray.mk (List.toArray [(122 : UInt8)])))).bind fun r3 => ((g9 (ByteArray.mk (List.toArray [(4 : UInt8), (97 : UInt8), (0 : UInt8)]))).bind fun r4 => ((g9 (ByteArray.mk (List.toArray [(5 : UInt8), (255 : UInt8), (0 : UInt8), (0 : UInt8)]))).bind fun r5 => (bif ((decide ((ByteArray.size r1.1) ≤ (4611686018427387903 : Nat))) && (decide ((ByteArray.size r2.1) ≤ (4611686018427387903 : Nat)))) then ((g11 (r1.1 ++ r2.1)).bind fun r6 => (bif ((ByteArray.toList r0.1) == (ByteArray.toList (ByteArray.mk (List.toArray [(4 : UInt8), (0 : UInt8), (255 : UInt8), (1 : UInt8), (0 : UInt8), (0 : UInt8)])))) then (bif (r0.2 == (0 : Int)) then (bif (Op.bytesLess (ByteArray.toList r1.1) (ByteArray.toList r2.1)) then (bif (((ByteArray.size r1.1) : Int) == (9 : Int)) then (bif ((ByteArray.toList r3.2.2.2.1) == (ByteArray.toList (ByteArray.mk (List.toArray [(0 : UInt8), (1 : UInt8)])))) then (bif ((ByteArray.toList r3.2.2.2.2.1) == (ByteArray.toList (ByteArray.mk (List.toArray [(122 : UInt8)])))) then (bif (r3.2.2.2.2.2 == (0 : Int)) then (bif (r4.2.2.2.2.2 == (3 : Int)) then (bif (r5.2.2.2.2.2 == (4 : Int)) then (bif (((List.length r6.1) : Int) == (2 : Int)) then (bif (r6.2 == (0 : Int)) then ((g15 (ByteArray.mk (List.toArray [(1 : UInt8), (255 : UInt8)]))).bind fun r7 => (ret (((ByteArray.toList r7) == (ByteArray.toList (ByteArray.mk (List.toArray [(2 : UInt8)]))))))) else (ret (false))) else (ret (false))) else (ret (false))) else (ret (false))) else (ret (false))) else (ret (false))) else (ret (false))) else (ret (false))) else (ret (false))) else (ret (false))) else (ret (false)))) else none)))) else none))))
theorem transomlaw05_awake.c_bind {β : Type} (g9 : ByteArray → Option (Int × Int × Int × ByteArray × ByteArray × Int)) (g11 : ByteArray → Option ((List (Int × (Int × (Int × (ByteArray × Unit))))) × Int)) (g15 : ByteArray → Option ByteArray) (g18 : Int → Int → Int → ByteArray → Option (ByteArray × Int))   (ret : Bool → Option β) : transomlaw05_awake.c g9 g11 g15 g18   ret = (transomlaw05_awake.c g9 g11 g15 g18   some).bind ret := by
  simp only [transomlaw05_awake.c, bif_bind, sum_bind, Option.bind_assoc, Option.bind_some, Option.bind_none, Option.bind_fun_some]
theorem transomlaw05_awake.ev (g9 : ByteArray → Option (Int × Int × Int × ByteArray × ByteArray × Int)) (g11 : ByteArray → Option ((List (Int × (Int × (Int × (ByteArray × Unit))))) × Int)) (g15 : ByteArray → Option ByteArray) (g18 : Int → Int → Int → ByteArray → Option (ByteArray × Int))   : evAt (env_transomlaw05_awake g9 g11 g15 g18 ) [] [] [] [] some = transomlaw05_awake.c g9 g11 g15 g18   (fun r => some ⟨.v (.one (.d .bool r)), []⟩) := by
  kernel_rfl
def transomlaw05_awake.f (k : Nat)  : Option Bool := transomlaw05_awake.c (keycode_Read.f k) (keycode_ReadRow.f k) (keycode_After.f k) (keycode_Put.f k)   some
theorem transomlaw05_awake.is (g9 : ByteArray → Option (Int × Int × Int × ByteArray × ByteArray × Int)) (g11 : ByteArray → Option ((List (Int × (Int × (Int × (ByteArray × Unit))))) × Int)) (g15 : ByteArray → Option ByteArray) (g18 : Int → Int → Int → ByteArray → Option (ByteArray × Int))  : FnIs (env_transomlaw05_awake g9 g11 g15 g18 ) 8 Go.Proofs.Try.f8 := ⟨Go.Proofs.Try.func8, rfl, rfl, rfl, by decide⟩
theorem transomlaw05_awake.envok (g9 : ByteArray → Option (Int × Int × Int × ByteArray × ByteArray × Int)) (g11 : ByteArray → Option ((List (Int × (Int × (Int × (ByteArray × Unit))))) × Int)) (g15 : ByteArray → Option ByteArray) (g18 : Int → Int → Int → ByteArray → Option (ByteArray × Int))  (h9 : CtOK Go.Proofs.Try.prog 9 (ct_keycode_Read g9)) (h11 : CtOK Go.Proofs.Try.prog 11 (ct_keycode_ReadRow g11)) (h15 : CtOK Go.Proofs.Try.prog 15 (ct_keycode_After g15)) (h18 : CtOK Go.Proofs.Try.prog 18 (ct_keycode_Put g18)) : EnvOK (env_transomlaw05_awake g9 g11 g15 g18 ).toEnv := by
  intro f c h
  simp only [env_transomlaw05_awake] at h
  split at h
  · rename_i e; subst e; cases h; exact h9
  split at h
  · rename_i e; subst e; cases h; exact h11
  split at h
  · rename_i e; subst e; cases h; exact h15
  split at h
  · rename_i e; subst e; cases h; exact h18
  simp at h
theorem transomlaw05_awake.ok (k : Nat) : CtOK Go.Proofs.Try.prog 8 (ct_transomlaw05_awake (transomlaw05_awake.f k)) := by
  refine ct_of_ev (E := env_transomlaw05_awake (keycode_Read.f k) (keycode_ReadRow.f k) (keycode_After.f k) (keycode_Put.f k) ) (transomlaw05_awake.is _ _ _ _ ) (transomlaw05_awake.envok _ _ _ _  (keycode_Read.ok k) (keycode_ReadRow.ok k) (keycode_After.ok k) (keycode_Put.ok k)) (fun s hs => by simp [env_transomlaw05_awake] at hs) rfl ?_
  intro tvs blks res h
  simp only [ct_transomlaw05_awake] at h
  split at h
  · refine (transomlaw05_awake.ev (keycode_Read.f k) (keycode_ReadRow.f k) (keycode_After.f k) (keycode_Put.f k)  ).trans ?_
    rw [transomlaw05_awake.c_bind]
    exact h
  · simp at h

/-! ### transomref05_fixed: function 30 -/
def ct_transomref05_fixed (g : Int → Option Int) : Ct where
  nin := 0
  mv := []
  F := fun tvs blks {β} K => match tvs, blks with
    | [.v (.one (.d (.int .i64) a0))], [] => (g a0).bind fun r => K ⟨.v (.one (.d (.int .i64) r)), []⟩
    | _, _ => none
  legit := fun tvs blks K r h => by
    split at h
    · obtain ⟨x, hx, hk⟩ := Option.bind_eq_some_iff.1 h
      refine ⟨_, ?_, hk⟩
      simp only [hx, Option.bind_some]
    · simp at h
noncomputable def env_transomref05_fixed   : FEnv := { P := Go.Proofs.Try.prog, ct := fun m => none, N := 9, body := Go.Proofs.Try.f30.body.getD .skip, rvs := [.tmp 2], rts := [3], nin := 0, rmv := [], segs := [] }
def transomref05_fixed.c {β : Type}   (a0 : Int) (ret : Int → Option β) : Option β := (bif (a0 == (1 : Int)) then (ret ((1 : Int))) else (bif (a0 == (2 : Int)) then (bif (a0 == (2 : Int)) then (ret ((8 : Int))) else (ret ((0 : Int)))) else (bif (a0 == (3 : Int)) then (ret ((8 : Int))) else (ret ((0 : Int))))))
theorem transomref05_fixed.c_bind {β : Type}   (a0 : Int) (ret : Int → Option β) : transomref05_fixed.c   a0 ret = (transomref05_fixed.c   a0 some).bind ret := by
  simp only [transomref05_fixed.c, bif_bind, sum_bind, Option.bind_assoc, Option.bind_some, Option.bind_none, Option.bind_fun_some]
theorem transomref05_fixed.ev   (a0 : Int) : evAt (env_transomref05_fixed  ) [] [0] [.v (.one (.d (.int .i64) a0))] [] some = transomref05_fixed.c   a0 (fun r => some ⟨.v (.one (.d (.int .i64) r)), []⟩) := by
  kernel_rfl
def transomref05_fixed.f (k : Nat) (a0 : Int) : Option Int := transomref05_fixed.c   a0 some
theorem transomref05_fixed.is   : FnIs (env_transomref05_fixed  ) 30 Go.Proofs.Try.f30 := ⟨Go.Proofs.Try.func30, rfl, rfl, rfl, by decide⟩
theorem transomref05_fixed.envok    : EnvOK (env_transomref05_fixed  ).toEnv := by
  intro f c h
  simp only [env_transomref05_fixed] at h
  simp at h
theorem transomref05_fixed.ok (k : Nat) : CtOK Go.Proofs.Try.prog 30 (ct_transomref05_fixed (transomref05_fixed.f k)) := by
  refine ct_of_ev (E := env_transomref05_fixed  ) (transomref05_fixed.is ) (transomref05_fixed.envok  ) (fun s hs => by simp [env_transomref05_fixed] at hs) rfl ?_
  intro tvs blks res h
  simp only [ct_transomref05_fixed] at h
  split at h
  · refine (transomref05_fixed.ev   _ ).trans ?_
    rw [transomref05_fixed.c_bind]
    exact h
  · simp at h

/-! ### transomref05_Number: function 31 -/
def ct_transomref05_Number (g : ByteArray → Option Int) : Ct where
  nin := 0
  mv := []
  F := fun tvs blks {β} K => match tvs, blks with
    | [.v (.one (.d .str a0))], [] => (g a0).bind fun r => K ⟨.v (.one (.d (.int .u64) r)), []⟩
    | _, _ => none
  legit := fun tvs blks K r h => by
    split at h
    · obtain ⟨x, hx, hk⟩ := Option.bind_eq_some_iff.1 h
      refine ⟨_, ?_, hk⟩
      simp only [hx, Option.bind_some]
    · simp at h
def seg_transomref05_Number_0 (g : ByteArray → Int → Int → Option Int) : Seg where
  path := [4, 1, 0, 1, 1]
  prep := []
  keep := [0, 3, 4]
  F := fun tvs blks {β} K => match tvs, blks with
    | [.v (.one (.d .str x0)), .v (.one (.d (.int .u64) x1)), .v (.one (.d (.int .i64) x2))], [] => (g x0 x1 x2).bind fun r => K ⟨.v (.one (.d (.int .u64) r)), []⟩
    | _, _ => none
  legit := fun tvs blks K r h => by
    split at h
    · obtain ⟨x, hx, hk⟩ := Option.bind_eq_some_iff.1 h
      refine ⟨_, ?_, hk⟩
      simp only [hx, Option.bind_some]
    · simp at h
noncomputable def env_transomref05_Number  (s0 : ByteArray → Int → Int → Option Int) : FEnv := { P := Go.Proofs.Try.prog, ct := fun m => none, N := 17, body := Go.Proofs.Try.f31.body.getD .skip, rvs := [.tmp 2], rts := [23], nin := 0, rmv := [], segs := [seg_transomref05_Number_0 s0] }
def transomref05_Number.c {β : Type}  (s0 : ByteArray → Int → Int → Option Int) (a0 : ByteArray) (ret : Int → Option β) : Option β := ((s0 a0 (0 : Int) (0 : Int)).bind ret)
def transomref05_Number.s0c {β : Type}  (s0 : ByteArray → Int → Int → Option Int) (x0 : ByteArray) (x1 : Int) (x2 : Int) (ret : Int → Option β) : Option β := (bif (decide (x2 < (8 : Int))) then (bif ((decide ((0 : Int) ≤ x2)) && (decide (x2 < ((ByteArray.size x0) : Int)))) then ((s0 x0 (IntKind.wrap IntKind.u64 ((BitVec.toNat ((BitVec.ofInt (64 : Nat) (IntKind.wrap IntKind.u64 (x1 * (256 : Int)))) ||| (BitVec.ofInt (64 : Nat) (IntKind.wrap IntKind.u64 (bt x0 x2))))) : Int)) (IntKind.wrap IntKind.i64 (x2 + (1 : Int)))).bind ret) else none) else (ret (x1)))
theorem transomref05_Number.c_bind {β : Type}  (s0 : ByteArray → Int → Int → Option Int) (a0 : ByteArray) (ret : Int → Option β) : transomref05_Number.c  s0 a0 ret = (transomref05_Number.c  s0 a0 some).bind ret := by
  simp only [transomref05_Number.c, bif_bind, sum_bind, Option.bind_assoc, Option.bind_some, Option.bind_none, Option.bind_fun_some]
theorem transomref05_Number.s0c_bind {β : Type}  (s0 : ByteArray → Int → Int → Option Int) (x0 : ByteArray) (x1 : Int) (x2 : Int) (ret : Int → Option β) : transomref05_Number.s0c  s0 x0 x1 x2 ret = (transomref05_Number.s0c  s0 x0 x1 x2 some).bind ret := by
  simp only [transomref05_Number.s0c, bif_bind, sum_bind, Option.bind_assoc, Option.bind_some, Option.bind_none, Option.bind_fun_some]
theorem transomref05_Number.ev  (s0 : ByteArray → Int → Int → Option Int) (a0 : ByteArray) : evAt (env_transomref05_Number  s0) [] [0] [.v (.one (.d .str a0))] [] some = transomref05_Number.c  s0 a0 (fun r => some ⟨.v (.one (.d (.int .u64) r)), []⟩) := by
  kernel_rfl
theorem transomref05_Number.s0_ev  (s0 : ByteArray → Int → Int → Option Int) (x0 : ByteArray) (x1 : Int) (x2 : Int) : evAt (env_transomref05_Number  s0) [4, 1, 0, 1, 1] [0, 3, 4] [.v (.one (.d .str x0)), .v (.one (.d (.int .u64) x1)), .v (.one (.d (.int .i64) x2))] [] some = transomref05_Number.s0c  s0 x0 x1 x2 (fun r => some ⟨.v (.one (.d (.int .u64) r)), []⟩) := by
  kernel_rfl
def transomref05_Number.s0 : Nat → ByteArray → Int → Int → Option Int
  | 0, _, _, _ => none
  | k + 1, x0, x1, x2 => transomref05_Number.s0c  (transomref05_Number.s0 k) x0 x1 x2 some
def transomref05_Number.f (k : Nat) (a0 : ByteArray) : Option Int := transomref05_Number.c  (transomref05_Number.s0 k) a0 some
theorem transomref05_Number.is  (s0 : ByteArray → Int → Int → Option Int) : FnIs (env_transomref05_Number  s0) 31 Go.Proofs.Try.f31 := ⟨Go.Proofs.Try.func31, rfl, rfl, rfl, by decide⟩
theorem transomref05_Number.envok  (s0 : ByteArray → Int → Int → Option Int)  : EnvOK (env_transomref05_Number  s0).toEnv := by
  intro f c h
  simp only [env_transomref05_Number] at h
  simp at h
theorem transomref05_Number.segs_ok : ∀ k, ∀ s ∈ (env_transomref05_Number  (transomref05_Number.s0 k)).segs, SegOK (env_transomref05_Number  (transomref05_Number.s0 k)) Go.Proofs.Try.f31 s
  | 0 => by
    intro s hs
    simp only [env_transomref05_Number, List.mem_cons, List.not_mem_nil, or_false] at hs
    rcases hs with rfl
    · intro tvs blks res h; exfalso; simp only [seg_transomref05_Number_0] at h; split at h <;> simp [transomref05_Number.s0] at h
  | k + 1 => by
    have ih := transomref05_Number.segs_ok k
    intro s hs
    simp only [env_transomref05_Number, List.mem_cons, List.not_mem_nil, or_false] at hs
    rcases hs with rfl
    · refine seg_of_ev (E := env_transomref05_Number  (transomref05_Number.s0 k)) (transomref05_Number.envok _  ) ⟨(transomref05_Number.is  (transomref05_Number.s0 k)).rvs⟩ ih ?_
      intro tvs blks res h
      simp only [seg_transomref05_Number_0] at h
      split at h
      · refine (transomref05_Number.s0_ev  (transomref05_Number.s0 k) _ _ _ ).trans ?_
        rw [transomref05_Number.s0c_bind]
        exact h
      · simp at h
theorem transomref05_Number.ok (k : Nat) : CtOK Go.Proofs.Try.prog 31 (ct_transomref05_Number (transomref05_Number.f k)) := by
  refine ct_of_ev (E := env_transomref05_Number  (transomref05_Number.s0 k)) (transomref05_Number.is _ ) (transomref05_Number.envok _  ) (transomref05_Number.segs_ok k) rfl ?_
  intro tvs blks res h
  simp only [ct_transomref05_Number] at h
  split at h
  · refine (transomref05_Number.ev  (transomref05_Number.s0 k) _ ).trans ?_
    rw [transomref05_Number.c_bind]
    exact h
  · simp at h

/-! ### transomref02_exponent: function 64 -/
def ct_transomref02_exponent (g : Int → Option Int) : Ct where
  nin := 0
  mv := []
  F := fun tvs blks {β} K => match tvs, blks with
    | [.v (.one (.d (.int .u64) a0))], [] => (g a0).bind fun r => K ⟨.v (.one (.d (.int .i64) r)), []⟩
    | _, _ => none
  legit := fun tvs blks K r h => by
    split at h
    · obtain ⟨x, hx, hk⟩ := Option.bind_eq_some_iff.1 h
      refine ⟨_, ?_, hk⟩
      simp only [hx, Option.bind_some]
    · simp at h
noncomputable def env_transomref02_exponent   : FEnv := { P := Go.Proofs.Try.prog, ct := fun m => none, N := 7, body := Go.Proofs.Try.f64.body.getD .skip, rvs := [.tmp 2], rts := [3], nin := 0, rmv := [], segs := [] }
def transomref02_exponent.c {β : Type}   (a0 : Int) (ret : Int → Option β) : Option β := (ret ((IntKind.wrap IntKind.i64 (IntKind.wrap IntKind.u64 ((BitVec.toNat ((BitVec.ofInt (64 : Nat) (Int.fdiv a0 (4503599627370496 : Int))) &&& (BitVec.ofInt (64 : Nat) (2047 : Int)))) : Int)))))
theorem transomref02_exponent.c_bind {β : Type}   (a0 : Int) (ret : Int → Option β) : transomref02_exponent.c   a0 ret = (transomref02_exponent.c   a0 some).bind ret := by
  simp only [transomref02_exponent.c, bif_bind, sum_bind, Option.bind_assoc, Option.bind_some, Option.bind_none, Option.bind_fun_some]
theorem transomref02_exponent.ev   (a0 : Int) : evAt (env_transomref02_exponent  ) [] [0] [.v (.one (.d (.int .u64) a0))] [] some = transomref02_exponent.c   a0 (fun r => some ⟨.v (.one (.d (.int .i64) r)), []⟩) := by
  kernel_rfl
def transomref02_exponent.f (k : Nat) (a0 : Int) : Option Int := transomref02_exponent.c   a0 some
theorem transomref02_exponent.is   : FnIs (env_transomref02_exponent  ) 64 Go.Proofs.Try.f64 := ⟨Go.Proofs.Try.func64, rfl, rfl, rfl, by decide⟩
theorem transomref02_exponent.envok    : EnvOK (env_transomref02_exponent  ).toEnv := by
  intro f c h
  simp only [env_transomref02_exponent] at h
  simp at h
theorem transomref02_exponent.ok (k : Nat) : CtOK Go.Proofs.Try.prog 64 (ct_transomref02_exponent (transomref02_exponent.f k)) := by
  refine ct_of_ev (E := env_transomref02_exponent  ) (transomref02_exponent.is ) (transomref02_exponent.envok  ) (fun s hs => by simp [env_transomref02_exponent] at hs) rfl ?_
  intro tvs blks res h
  simp only [ct_transomref02_exponent] at h
  split at h
  · refine (transomref02_exponent.ev   _ ).trans ?_
    rw [transomref02_exponent.c_bind]
    exact h
  · simp at h

/-! ### transomref02_fraction: function 65 -/
def ct_transomref02_fraction (g : Int → Option Int) : Ct where
  nin := 0
  mv := []
  F := fun tvs blks {β} K => match tvs, blks with
    | [.v (.one (.d (.int .u64) a0))], [] => (g a0).bind fun r => K ⟨.v (.one (.d (.int .u64) r)), []⟩
    | _, _ => none
  legit := fun tvs blks K r h => by
    split at h
    · obtain ⟨x, hx, hk⟩ := Option.bind_eq_some_iff.1 h
      refine ⟨_, ?_, hk⟩
      simp only [hx, Option.bind_some]
    · simp at h
noncomputable def env_transomref02_fraction   : FEnv := { P := Go.Proofs.Try.prog, ct := fun m => none, N := 5, body := Go.Proofs.Try.f65.body.getD .skip, rvs := [.tmp 2], rts := [23], nin := 0, rmv := [], segs := [] }
def transomref02_fraction.c {β : Type}   (a0 : Int) (ret : Int → Option β) : Option β := (ret ((IntKind.wrap IntKind.u64 ((BitVec.toNat ((BitVec.ofInt (64 : Nat) a0) &&& (BitVec.ofInt (64 : Nat) (4503599627370495 : Int)))) : Int))))
theorem transomref02_fraction.c_bind {β : Type}   (a0 : Int) (ret : Int → Option β) : transomref02_fraction.c   a0 ret = (transomref02_fraction.c   a0 some).bind ret := by
  simp only [transomref02_fraction.c, bif_bind, sum_bind, Option.bind_assoc, Option.bind_some, Option.bind_none, Option.bind_fun_some]
theorem transomref02_fraction.ev   (a0 : Int) : evAt (env_transomref02_fraction  ) [] [0] [.v (.one (.d (.int .u64) a0))] [] some = transomref02_fraction.c   a0 (fun r => some ⟨.v (.one (.d (.int .u64) r)), []⟩) := by
  kernel_rfl
def transomref02_fraction.f (k : Nat) (a0 : Int) : Option Int := transomref02_fraction.c   a0 some
theorem transomref02_fraction.is   : FnIs (env_transomref02_fraction  ) 65 Go.Proofs.Try.f65 := ⟨Go.Proofs.Try.func65, rfl, rfl, rfl, by decide⟩
theorem transomref02_fraction.envok    : EnvOK (env_transomref02_fraction  ).toEnv := by
  intro f c h
  simp only [env_transomref02_fraction] at h
  simp at h
theorem transomref02_fraction.ok (k : Nat) : CtOK Go.Proofs.Try.prog 65 (ct_transomref02_fraction (transomref02_fraction.f k)) := by
  refine ct_of_ev (E := env_transomref02_fraction  ) (transomref02_fraction.is ) (transomref02_fraction.envok  ) (fun s hs => by simp [env_transomref02_fraction] at hs) rfl ?_
  intro tvs blks res h
  simp only [ct_transomref02_fraction] at h
  split at h
  · refine (transomref02_fraction.ev   _ ).trans ?_
    rw [transomref02_fraction.c_bind]
    exact h
  · simp at h
end Go.Proofs.Ytpcojbnoadnknaa.Aev
