import Derived.Test.YtijjlpgcpdapnaaGreatDoorTys
import Derived.Test.YtijjlpgcpdapnaaGreatDoorProg
import Derived.Laws.Externs
import Derived.Lib.Bytealg
import Derived.Test.YtijjlpgcpdapnaaGreatDoorF1
import Derived.Test.YtijjlpgcpdapnaaGreatDoorF2
import Derived.Test.YtijjlpgcpdapnaaGreatDoorF9
import Derived.Test.YtijjlpgcpdapnaaGreatDoorAevY
import Derived.Test.YtijjlpgcpdapnaaGreatDoorEsc
/- By a program of this session (AEV): functions of the program as plain functions, and that the machine does what they say. -/
namespace Go.Proofs.YtijjlpgcpdapnaaGreatDoor.Aev
set_option linter.unusedVariables false
set_option linter.unusedSimpArgs false
set_option maxRecDepth 100000
set_option maxHeartbeats 4000000
open Go Go.Proofs.Tryz
/-! ### keycode_put: function 73 -/
abbrev keycode_put.G : Type := Int → Int → Int → ByteArray → (List Int) → Option ((List Int))
def keycode_put.ct (g : keycode_put.G) : Ct where
 nin := 0
 mv := [0]
 F := fun tvs blks {β} K => match tvs, blks with
  | [.v (.one (.own 0)), .v (.agg [(.d (.int .i64) a0), (.d (.int .i64) a1), (.d (.int .u64) a2), (.d .str a3)])], [.own (.int .u8) false a4] => (g a0 a1 a2 a3 a4).bind fun r => K ⟨.v (.one (.own 0)), [some (.own (.int .u8) false r)]⟩
  | [.v (.one (.raw (.slice none 0 0))), .v (.agg [(.d (.int .i64) a0), (.d (.int .i64) a1), (.d (.int .u64) a2), (.d .str a3)])], [] => (g a0 a1 a2 a3 []).bind fun r => K ⟨.v (.one (.own 0)), [some (.own (.int .u8) false r)]⟩
  | _, _ => none
 legit := fun tvs blks K r h => by
  split at h
  ·obtain ⟨x, hx, hk⟩ := Option.bind_eq_some_iff.1 h
   refine ⟨_, ?_, hk⟩
   simp only [hx, os]
  ·obtain ⟨x, hx, hk⟩ := Option.bind_eq_some_iff.1 h
   refine ⟨_, ?_, hk⟩
   simp only [hx, os]
  ·simp at h
abbrev keycode_put.S0 : Type := ByteArray → (List Int) → Option ((List Int))
def keycode_put.sg0 (g : keycode_put.S0) : Seg where
 path := [4, 1, 2, 1, 3, 1, 3, 1, 3, 1, 4, 1, 0, 1, 1]
 prep := []
 keep := [2, 42]
 F := fun tvs blks {β} K => match tvs, blks with
  | [.v (.one (.ptr 0 0)), .v (.one (.fn 121 [(1, 0)]))], [some (.box [(.own 2)]), some (.box [(.d .str x0)]), some (.own (.int .u8) false x1)] => (g x0 x1).bind fun r => K ⟨.v (.one (.own 0)), [some (.own (.int .u8) false r)]⟩
  | _, _ => none
 legit := fun _ _ K _ h => by split at h; exact (legit1 K h :); simp at h
noncomputable def keycode_put.env (g103 : keycode_put8.G) (g104 : reals_Key.G) (g105 : keycode_escaped.G) (s0 : keycode_put.S0) : FEnv := { P := Go.Proofs.Tryz.prog, ct := fun m => if m = 103 then some (keycode_put8.ct g103) else if m = 104 then some (reals_Key.ct g104) else if m = 105 then some (keycode_escaped.ct g105) else none, N := 49, body := Go.Proofs.Tryz.f73.body.getD .skip, rvs := [.tmp 4], rts := [115], nin := 0, rmv := [0], segs := [keycode_put.sg0 s0] }
def keycode_put.c {β : Type} (g103 : keycode_put8.G) (g104 : reals_Key.G) (g105 : keycode_escaped.G) (s0 : keycode_put.S0) (a0 a1 a2 : Int) (a3 : ByteArray) (a4 : List Int) (ret : ((List Int)) → Option β) : Option β := (bif (decide (((a4.length + (1 : Nat)) * (1 : Nat)) ≤ (35184372088832 : Nat))) then (bif (a0 == (1 : Int)) then (bif (decide ((((List.length (a4 ++ [(IntKind.wrap .u8 a0)])) + (1 : Nat)) * (1 : Nat)) ≤ (35184372088832 : Nat))) then (ret (((a4 ++ [(IntKind.wrap .u8 a0)]) ++ [(IntKind.wrap .u8 a1)]))) else none) else (bif (a0 == (2 : Int)) then ((g103 (IntKind.wrap .u64 ((BitVec.toNat ((BitVec.ofInt (64 : Nat) (IntKind.wrap .u64 a1)) ^^^ (BitVec.ofInt (64 : Nat) (9223372036854775808 : Int)))) : Int)) (a4 ++ [(IntKind.wrap .u8 a0)])).bind fun r0 => (ret (r0))) else (bif (a0 == (3 : Int)) then ((g104 a2).bind fun r1 => ((g103 r1 (a4 ++ [(IntKind.wrap .u8 a0)])).bind fun r2 => (ret (r2)))) else (bif (a0 == (4 : Int)) then (bif (a0 == (4 : Int)) then ((g105 a3).bind fun r3 => ((s0 r3 (a4 ++ [(IntKind.wrap .u8 a0)])).bind ret)) else (ret ((a4 ++ [(IntKind.wrap .u8 a0)])))) else (bif (a0 == (5 : Int)) then ((g105 a3).bind fun r4 => ((s0 r4 (a4 ++ [(IntKind.wrap .u8 a0)])).bind ret)) else (ret ((a4 ++ [(IntKind.wrap .u8 a0)])))))))) else none)
theorem keycode_put.c_bind {β : Type} {g103 : keycode_put8.G} {g104 : reals_Key.G} {g105 : keycode_escaped.G} {s0 : keycode_put.S0} {a0 : Int} {a1 : Int} {a2 : Int} {a3 : ByteArray} {a4 : List Int} {ret : ((List Int)) → Option β} : keycode_put.c g103 g104 g105 s0 a0 a1 a2 a3 a4 ret = (keycode_put.c g103 g104 g105 s0 a0 a1 a2 a3 a4 some).bind ret := by
 simp only [keycode_put.c, bo, so, oa, os, on, ofs]
theorem keycode_put.ev {g103 : keycode_put8.G} {g104 : reals_Key.G} {g105 : keycode_escaped.G} {s0 : keycode_put.S0} {a0 : Int} {a1 : Int} {a2 : Int} {a3 : ByteArray} {a4 : List Int} : evAt (keycode_put.env g103 g104 g105 s0) [] [0, 1] [.v (.one (.own 0)), .v (.agg [(.d (.int .i64) a0), (.d (.int .i64) a1), (.d (.int .u64) a2), (.d .str a3)])] [some (.own (.int .u8) false a4)] some = keycode_put.c g103 g104 g105 s0 a0 a1 a2 a3 a4 (fun r => some ⟨.v (.one (.own 0)), [some (.own (.int .u8) false r)]⟩) := by
 kernel_rfl
theorem keycode_put.ev_nil {g103 : keycode_put8.G} {g104 : reals_Key.G} {g105 : keycode_escaped.G} {s0 : keycode_put.S0} {a0 : Int} {a1 : Int} {a2 : Int} {a3 : ByteArray} : evAt (keycode_put.env g103 g104 g105 s0) [] [0, 1] [.v (.one (.raw (.slice none 0 0))), .v (.agg [(.d (.int .i64) a0), (.d (.int .i64) a1), (.d (.int .u64) a2), (.d .str a3)])] [] some = keycode_put.c g103 g104 g105 s0 a0 a1 a2 a3 [] (fun r => some ⟨.v (.one (.own 0)), [some (.own (.int .u8) false r)]⟩) := by
 kernel_rfl
def keycode_put.s0 (k : Nat) : ByteArray → (List Int) → Option ((List Int)) := fun s xs => bif decide (xs.length + 2 * s.size + 2 ≤ 2 ^ 45) then some (xs ++ (escTo s s.size ++ [0, 0])) else none
def keycode_put.f (k : Nat) (a0 a1 a2 : Int) (a3 : ByteArray) (a4 : List Int) : Option ((List Int)) := keycode_put.c (keycode_put8.f k) (reals_Key.f k) (keycode_escaped.f k) (keycode_put.s0 k) a0 a1 a2 a3 a4 some
/-! the loop over escaped's bytes -/
def keycode_put.blkOf (s : ByteArray) (ys : List Int) (n : Nat) : Option (Option Blk) := [some (.box [.own 2]), some (.box [.d .str s]), some (.own (.int .u8) false ys)][n]?
noncomputable def keycode_put.bodyOps : Array Oper := match codeAt (Go.Proofs.Tryz.f73.body.getD .skip) [4, 1, 2, 1, 3, 1, 3, 1, 3, 1, 4, 1, 0, 1, 1] with
 | some (.rangeFunc _ _ _ (.block _ (.region _ ops _)), _) => ops
 | _ => #[]
noncomputable def keycode_put.endOps : Array Oper := match codeAt (Go.Proofs.Tryz.f73.body.getD .skip) [0, 1, 1, 1] with
 | some (.region _ ops _, _) => ops
 | _ => #[]
noncomputable def keycode_put.E0 : Env := { P := Go.Proofs.Tryz.prog, ct := fun _ => none, N := 49 }
theorem keycode_put.body_plain : plainOps keycode_put.bodyOps = true := by kernel_rfl
theorem keycode_put.end_plain : plainOps keycode_put.endOps = true := by kernel_rfl
theorem keycode_put.body_ev (s : ByteArray) (ys : List Int) (x : Int) : evOps keycode_put.E0 keycode_put.bodyOps 100 (fun st _ => ((packN 2 [] [] : AM _).run st []).map (·.1)) (List.range keycode_put.bodyOps.size)
  (stOf [2, 5] [.v (.one (.ptr 0 0)), .v (.one (.d (.int .u8) x))] [some (.box [.own 2]), some (.box [.d .str s]), some (.own (.int .u8) false ys)]) [] =
   bif decide ((ys.length + 1) * 1 ≤ 2 ^ 45) then some ([], [some (.box [.own 2]), some (.box [.d .str s]), some (.own (.int .u8) false (ys ++ [x]))]) else none := by
 kernel_rfl
theorem keycode_put.end_ev (s : ByteArray) (ys : List Int) : evOps keycode_put.E0 keycode_put.endOps 100 (fun st _ => ((do packN 0 [] [← AM.rT 4] : AM _).run st []).map (·.1)) (List.range keycode_put.endOps.size)
  (stOf [2] [.v (.one (.ptr 0 0))] [some (.box [.own 2]), some (.box [.d .str s]), some (.own (.int .u8) false ys)]) [] = some ([.v (.one (.own 0))], [some (.own (.int .u8) false ys)]) := by
 kernel_rfl
set_option maxHeartbeats 1000000 in
theorem keycode_put.s0_hand (g51 : Int → (List Int) → Option ((List Int))) (g52 : Int → Option Int) (g53 : ByteArray → Option ByteArray) (s0 : ByteArray → (List Int) → Option ((List Int))) (k : Nat) :
  SegOK (keycode_put.env g51 g52 g53 s0) Go.Proofs.Tryz.f73 (keycode_put.sg0 (keycode_put.s0 k)) := by
 intro tvs blks res h c stk hc X w S ρ H a hX hR
 simp only [keycode_put.sg0] at h hc hR
 split at h
 ·rename_i s xs
  simp only [keycode_put.s0] at h
  by_cases hlen : xs.length + 2 * s.size + 2 ≤ 2 ^ 45
  ·rw [decide_eq_true hlen] at h
   simp only [cond_true, os, Option.some.injEq] at h
   subst h
   simp only [keycode_put.env, Go.Proofs.Tryz.f73, Option.getD_some, codeAt, Option.some.injEq, Prod.mk.injEq] at hc
   obtain ⟨rfl, rfl⟩ := hc
   have hN : (keycode_put.env g51 g52 g53 s0).N = 49 := rfl
   have hmem : Mem X w S ρ H (keycode_put.blkOf s xs) := hR.mem
   -- the state
   obtain ⟨b0, hb0, ht2⟩ : ∃ b, ρ 0 = some (Ptr b 0) ∧ a.tmps.getD 2 undef = Ptr b 0 := hR.tmp 2 _ rfl
   obtain ⟨vs, ht42, hvs⟩ : ∃ vs : Array Value, a.tmps.getD 42 undef = .func (.func 121) #[] vs ∧ All2 (fun (p : Nat × Nat) u => ∃ b, ρ p.1 = some (Ptr b 0) ∧ u = Ptr b p.2) [(1, 0)] vs.toList := hR.tmp 42 _ rfl
   obtain ⟨u, l, hul, ⟨b1, hb1, rfl⟩, hl⟩ := All2.cons_left hvs
   rw [hl.nil_left] at hul
   obtain rfl : vs = #[Ptr b1 0] := by apply Array.toList_inj.1; rw [hul]
   -- the text's box
   have hcell : ∀ {X : Cx} {W : World} {S : Nat → Prop} {ρ1 : Nat → Option Value} {H1 : Nat → Option Nat} {blk : Nat → Option (Option Blk)}, Mem X W S ρ1 H1 blk → blk 1 = some (some (.box [.d .str s])) → ρ1 1 = some (Ptr b1 0) → W.cell? ⟨b1, 0, none⟩ = some (.string s) := by
    intro X W S ρ1 H1 blk hm hb h1
    obtain ⟨b, vs, e, _, h2, h3, h4⟩ := hm.rep 1 _ hb
    rw [h1] at h2
    simp at h2; subst h2
    obtain ⟨v, m, hv, hr, hn⟩ := All2.cons_left h4
    rw [hn.nil_left] at hv
    have hv0 : vs = #[v] := by apply Array.toList_inj.1; rw [hv]
    have : v = .string s := by simpa [RepAV, Rd] using hr
    simp [World.cell?, h3, hv0, this]
   have hc0 := hcell hmem rfl hb1
   have hb1lt : b1 < w.heap.size := by
    obtain ⟨b, vs, e, _, h2, h3, h4⟩ := hmem.rep 1 _ rfl
    rw [hb1] at h2
    simp at h2; subst h2
    exact (Array.getElem?_eq_some_iff.1 h3).1
   show Code.wp _ _ _ _ _
   refine (wpIn_wide (n := 5)).1 ?_
   obtain ⟨X1, hX1⟩ : ∃ X1, X1 = Mem.cx X w S ρ H (keycode_put.blkOf s xs) 2 := ⟨_, rfl⟩
   have hm1 : Mem X1 w S ρ H (keycode_put.blkOf s xs) := hX1 ▸ hmem.restart 2
   have hw1 : X1.w0 = w := by rw [hX1]; rfl
   have hS1 : X1.S0 = S := by rw [hX1]; rfl
   have hX0 : ∀ n, X.ρ0 n = none := by
    intro n
    cases hn : X.ρ0 n with
    | none => rfl
    | some v => exact absurd (hX n v hn) (by simp [keycode_put.env])
   have hρ1 : ∀ n v, X1.ρ0 n = some v → n < 2 := by
    intro n v hn
    rw [hX1] at hn
    simp only [Mem.cx, hX0] at hn
    split at hn
    ·assumption
    ·simp at hn
   have hmpB : ∀ (ys : List Int) (n : Nat) (B : Blk), keycode_put.blkOf s ys n = some (some B) → B.isMp = false := by
    intro ys n B hB
    match n with
    | 0 => simp [keycode_put.blkOf] at hB; subst hB; rfl
    | 1 => simp [keycode_put.blkOf] at hB; subst hB; rfl
    | 2 => simp [keycode_put.blkOf] at hB; subst hB; rfl
    | n + 3 => simp [keycode_put.blkOf] at hB
   have hnames : ∀ {W : World} {S' : Nat → Prop} {ρ1 : Nat → Option Value} {H1 : Nat → Option Nat} {blk : Nat → Option (Option Blk)}, Mem X1 W S' ρ1 H1 blk → ρ1 0 = some (Ptr b0 0) ∧ ρ1 1 = some (Ptr b1 0) := by
    intro W S' ρ1 H1 blk hm
    exact ⟨hm.names 0 _ (by rw [hX1]; simp [Mem.cx, hb0]), hm.names 1 _ (by rw [hX1]; simp [Mem.cx, hb1])⟩
   refine wpIn_rangeFunc_ownF (F := Fence.wide) rfl (by omega) (gf := 121) (lb := #[Ptr b1 0]) ht42 trivial (enters_of Go.Proofs.Tryz.func121 (by kernel_rfl) rfl) (encs := fun x : Int => #[.int .u8 x])
    (Kp := KC b1) (w0 := w) (esc_stops Fence.wide 4 trivial rfl (by omega) b1 s w hc0 hb1lt (by omega)) (fun h1 h2 => h2.trans h1) ?hKb (RowKit.Below.refl _ _) (fun _ => rfl)
    (fun pre W => ∃ S1 ρ1 H1, Mem X1 W S1 ρ1 H1 (keycode_put.blkOf s (xs ++ pre)) ∧ ∀ b, S1 b → S b ∨ ∃ (vs : Array Value) (e : TypeId) (fr : Nat × Nat), W.heap[b]? = some (Obj.cells vs e fr)) (fun _ _ _ => False) ?hI (fun _ _ _ _ _ h _ _ => h) ⟨S, ρ, H, by rw [List.append_nil]; exact hm1, fun b h => .inl h⟩
    (fun x => { tmps := (a.tmps.setIfInBounds 43 (.int .u8 x)).setIfInBounds 5 (.int .u8 x), defers := [] }) ?assign ?body ?done (fun _ _ _ _ _ _ h _ => h.elim)
   case hKb =>
    intro W l o o' hl _ _ _
    show (W.putObj l o').cell? _ = W.cell? _
    unfold World.cell?
    rw [World.putObj_heap_other (by show b1 ≠ l; omega)]
   case hI =>
    rintro pre W W' row ⟨S1, ρ1, H1, hm, hc⟩ hg hr
    have hnr : ∀ r, row = some r → ¬ S1 r := by
     intro r e hS
     obtain ⟨h1, o, h2, h3⟩ := hr r e
     rcases hc r hS with h4 | ⟨vs, e', fr, h4⟩
     ·have := hmem.old r h4; omega
     ·rw [h4] at h2; cases h2; simp [Obj.isCells] at h3
    refine ⟨S1, ρ1, H1, hm.turned hg (hmpB _) hnr (by rw [hw1]; exact hr), fun b hb => ?_⟩
    rcases hc b hb with h4 | ⟨vs, e', fr, h4⟩
    ·exact .inl h4
    ·refine .inr ⟨vs, e', fr, ?_⟩
     rw [← h4]
     exact hg.block b (Array.getElem?_eq_some_iff.1 h4).1 (fun e => hnr b e.symm hb)
   case assign =>
    intro l x W K hK
    refine wpIn_region ?_
    have hsz : 49 ≤ a.tmps.size := hR.size
    have hv : ((a.tmps.setIfInBounds 43 (Value.int IntKind.u8 x)).getD 43 undef) = .int .u8 x := by
     rw [Array.getD_eq_getD_getElem?, Array.getElem?_setIfInBounds_self_of_lt (by omega)]; rfl
    simp [wpOpsIn, Region.wanted, Oper.wpIn]
    refine ⟨fun _ _ => trivial, ?_⟩
    rw [show (some l) = (Fence.wide.inRound l).round from rfl, Oper.semAt_plain (Fence.wide.inRound l) _ _ (by intro c h; cases h)]
    have hrun : (execOp (Act.eval { tmps := a.tmps.setIfInBounds 43 (Value.int IntKind.u8 x), defers := [] }) { dst := some 5, op := Op.assign (Operand.tmp 43), type := 5, pos := "keycode.go:57", after := #[], guard := none }).run Go.Proofs.Tryz.prog W = .ok (.value (.int .u8 x)) W := by
     simp [execOp, Act.eval, hv]
    exact (congrArg _ hrun).mpr hK
   case body =>
    rintro l pre x W ⟨S1, ρ1, H1, hm, hc⟩ hlt
    obtain ⟨hn0, hn1⟩ := hnames hm
    have hsz : 49 ≤ a.tmps.size := hR.size
    obtain ⟨X2, hX2⟩ : ∃ X2, X2 = Mem.cx X1 W S1 ρ1 H1 (keycode_put.blkOf s (xs ++ pre)) 2 := ⟨_, rfl⟩
    have hm2 : Mem X2 W S1 ρ1 H1 (keycode_put.blkOf s (xs ++ pre)) := hX2 ▸ hm.restart 2
    have hρ2 : ∀ n v, X2.ρ0 n = some v → n < 2 := by
     intro n v hn
     rw [hX2] at hn
     simp only [Mem.cx] at hn
     split at hn
     ·assumption
     ·exact hρ1 n v hn
    refine wpIn_block ?_
    have hRb : Rep X2 W S1 ρ1 H1 keycode_put.E0.N (stOf [2, 5] [.v (.one (.ptr 0 0)), .v (.one (.d (.int .u8) x))] [some (.box [.own 2]), some (.box [.d .str s]), some (.own (.int .u8) false (xs ++ pre))])
      { tmps := (a.tmps.setIfInBounds 43 (.int .u8 x)).setIfInBounds 5 (.int .u8 x), defers := [] } := by
     refine { mem := hm2, tmp := ?_, size := by simpa [keycode_put.E0] using hsz, defers := rfl }
     intro t v ht
     obtain ⟨i, h1, h2⟩ := stOf_tmp ht
     match i with
     | 0 =>
      simp at h1 h2; subst h1; subst h2
      refine ⟨b0, hn0, ?_⟩
      rw [Array.getD_eq_getD_getElem?] at ht2 ⊢
      rw [Array.getElem?_setIfInBounds_ne (by decide), Array.getElem?_setIfInBounds_ne (by decide)]
      exact ht2
     | 1 =>
      simp at h1 h2; subst h1; subst h2
      rw [Array.getD_eq_getD_getElem?, Array.getElem?_setIfInBounds_self_of_lt (by simp; omega)]
      exact rfl
     | i + 2 => simp at h1
    have hle : (xs ++ pre).length + 1 ≤ 2 ^ 45 := by simp; omega
    have hev := keycode_put.body_ev s (xs ++ pre) x
    rw [Nat.mul_one, decide_eq_true hle] at hev
    refine region_in (E := keycode_put.E0) (ds := []) (fun _ => trivial) keycode_put.body_plain hev hRb ?_
    intro st' lg a' W' S' ρ' H' hK hR' hd hM
    simp only [Option.map_eq_some_iff] at hK
    obtain ⟨r, hr, he⟩ := hK
    obtain ⟨ρ'', H'', hm3, _⟩ := packN_rep hr (st2 := st') (fun _ _ => rfl) hR'.mem hρ2 (vals := []) trivial
    rw [he] at hm3
    have hsame : ∀ b, S1 b → W'.heap[b]? = W.heap[b]? := by
     intro b hb
     have := hm3.same b (by rw [hX2]; exact hm.old b hb) (by
      rw [hX2]
      rintro ⟨n, B, h1, h2⟩
      exact hm.apart n B b h1 h2 hb)
     rw [this, hX2]; rfl
    have hm4 : Mem X2 W' (fun b => S' b ∧ (S b ∨ ∃ (vs : Array Value) (e : TypeId) (fr : Nat × Nat), W'.heap[b]? = some (Obj.cells vs e fr))) ρ'' H'' (keycode_put.blkOf s (xs ++ (pre ++ [x]))) := by
     rw [← List.append_assoc]
     refine hm3.shrink (fun b hb => ?_) (fun b hb => hb.1) (fun n B h => ⟨B, h⟩) (fun n h => h) ?_ ?_
     ·have hb1 : S1 b := by rw [hX2] at hb; exact hb
      refine ⟨hm3.s0 b hb, ?_⟩
      rcases hc b hb1 with h4 | ⟨vs, e', fr, h4⟩
      ·exact .inl h4
      ·exact .inr ⟨vs, e', fr, (hsame b hb1).trans h4⟩
     ·intro n B hB
      have := hm3.rep n B hB
      match n with
      | 0 =>
       simp [keycode_put.blkOf] at hB; subst hB
       obtain ⟨b, vs, e, h1, h2, h3, h4⟩ := this
       obtain ⟨v, m, hv, hr, hn⟩ := All2.cons_left h4
       refine ⟨b, vs, e, h1, h2, h3, ?_⟩
       rw [hv, hn.nil_left]
       exact ⟨hr, trivial⟩
      | 1 =>
       simp [keycode_put.blkOf] at hB; subst hB
       obtain ⟨b, vs, e, h1, h2, h3, h4⟩ := this
       obtain ⟨v, m, hv, hr, hn⟩ := All2.cons_left h4
       refine ⟨b, vs, e, h1, h2, h3, ?_⟩
       rw [hv, hn.nil_left]
       exact ⟨hr, trivial⟩
      | 2 =>
       simp [keycode_put.blkOf] at hB; subst hB
       obtain ⟨v, h1, ⟨b, h2, h3⟩ | ⟨h2, h3, h4, h5⟩⟩ := this
       ·exact ⟨v, h1, .inl ⟨b, h2, h3⟩⟩
       ·refine ⟨v, h1, .inr ⟨h2, h3, ?_, h5⟩⟩
        obtain ⟨base, len, cap, q1, q2, q3, q4, q5, q6⟩ := h4
        refine ⟨base, len, cap, q1, q2, q3, q4, q5, fun hx => ?_⟩
        obtain ⟨p, hp, hSp, hrow⟩ := q6 hx
        refine ⟨p, hp, ⟨hSp, .inr ?_⟩, hrow⟩
        obtain ⟨us, ⟨c, e, fr, hh, _⟩, _⟩ := hrow 0 (List.length_pos_iff.2 hx)
        exact ⟨c, e, fr, hh⟩
      | n + 3 => simp [keycode_put.blkOf] at hB
     ·exact fun p hp => ⟨⟨(hm3.gl p hp).1, .inl (hR.mem.gl p hp).1⟩, (hm3.gl p hp).2⟩
    have hcells : ∀ n B b, keycode_put.blkOf s (xs ++ pre) n = some (some B) → H1 n = some b → ∃ (vs : Array Value) (e : TypeId), W.heap[b]? = some (Obj.cells vs e (0, 0)) := by
     intro n B b h1 h2
     have := hm.rep n B h1
     rw [h2] at this
     exact this.cells (hmpB _ n B h1)
    show KeepsOthers W W' ∧ KC b1 W W' ∧ _
    refine ⟨⟨?_, fun k o hk ho => ?_⟩, ?_, fun b => S' b ∧ (S b ∨ ∃ (vs : Array Value) (e : TypeId) (fr : Nat × Nat), W'.heap[b]? = some (Obj.cells vs e fr)), ρ'', H'', ?_, fun b hb => hb.2⟩
    ·have := hm4.size; rw [hX2] at this; exact this
    ·have := hm4.same k (by rw [hX2]; exact (Array.getElem?_eq_some_iff.1 hk).1) (by
      rw [hX2]
      rintro ⟨n, B, h1, h2⟩
      obtain ⟨vs, e, h3⟩ := hcells n B k h1 h2
      rw [h3] at hk; cases hk; simp [Obj.isCells] at ho)
     rw [this, hX2]; exact hk
    ·exact (hcell hm4 rfl (hm4.names 1 _ (by rw [hX2]; simp [Mem.cx, hn1]))).trans (hcell hm rfl hn1).symm
    ·rw [hX2] at hm4; exact hm.chain hm4
   case done =>
    rintro D ys W hD rfl ⟨S1, ρ1, H1, hm, hc⟩ hK
    obtain ⟨hn0, hn1⟩ := hnames hm
    have hsz : 49 ≤ a.tmps.size := hR.size
    have hmX : Mem X W S1 ρ1 H1 (keycode_put.blkOf s (xs ++ (escTo s s.size ++ [0, 0]))) := hmem.chain (hX1 ▸ hm)
    obtain ⟨X2, hX2⟩ : ∃ X2, X2 = Mem.cx X W S1 ρ1 H1 (keycode_put.blkOf s (xs ++ (escTo s s.size ++ [0, 0]))) 0 := ⟨_, rfl⟩
    have hm2 : Mem X2 W S1 ρ1 H1 (keycode_put.blkOf s (xs ++ (escTo s s.size ++ [0, 0]))) := hX2 ▸ hmX.restart 0
    have hρ2 : ∀ n v, X2.ρ0 n = some v → n < 0 := by
     intro n v hn
     rw [hX2] at hn
     simp [Mem.cx, hX0] at hn
    have hcells : ∀ n B b, keycode_put.blkOf s (xs ++ (escTo s s.size ++ [0, 0])) n = some (some B) → H1 n = some b → ∃ (vs : Array Value) (e : TypeId), W.heap[b]? = some (Obj.cells vs e (0, 0)) := by
     intro n B b h1 h2
     have := hm.rep n B h1
     rw [h2] at this
     exact this.cells (hmpB _ n B h1)
    have hDlt : D < W.heap.size := (Array.getElem?_eq_some_iff.1 hK).1
    have hnM : ¬ X2.M0 D := by
     rw [hX2]
     rintro ⟨n, B, h1, h2⟩
     obtain ⟨vs, e, h3⟩ := hcells n B D h1 h2
     rw [h3] at hK; cases hK
    have hnS1 : ¬ S1 D := by
     intro hS
     rcases hc D hS with h4 | ⟨vs, e, fr, h4⟩
     ·have := hmem.old D h4; omega
     ·rw [h4] at hK; cases hK
    show Code.wp _ (Code.seq _ Code.ret) _ _ _
    refine (wpIn_wide (n := 5)).1 (wpIn_seq ?_)
    have hRd : Rep X2 W S1 ρ1 H1 keycode_put.E0.N (stOf [2] [.v (.one (.ptr 0 0))] [some (.box [.own 2]), some (.box [.d .str s]), some (.own (.int .u8) false (xs ++ (escTo s s.size ++ [0, 0])))]) { a with defers := [] } := by
     refine { mem := hm2, tmp := ?_, size := by simpa [keycode_put.E0] using hsz, defers := rfl }
     intro t v ht
     obtain ⟨i, h1, h2⟩ := stOf_tmp ht
     match i with
     | 0 =>
      simp at h1 h2; subst h1; subst h2
      exact ⟨b0, hn0, ht2⟩
     | i + 1 => simp at h1
    refine region_in (E := keycode_put.E0) (ds := []) (fun _ => trivial) keycode_put.end_plain (keycode_put.end_ev s _) hRd ?_
    intro st' lg a' W' S' ρ' H' hK2 hR' hd hM
    simp only [Option.map_eq_some_iff] at hK2
    obtain ⟨r, hr, he⟩ := hK2
    obtain ⟨tv, lg1, h1, h2⟩ := rbs hr
    have hv4 : RepTV W' S' ρ' tv (a'.tmps.getD 4 undef) := hR'.tmp _ _ (run_rT h1)
    obtain ⟨ρ'', H'', hm3, hv3⟩ := packN_rep h2 (st2 := st') (fun _ _ => rfl) hR'.mem hρ2 (tvs := [tv]) (vals := [a'.tmps.getD 4 undef]) ⟨hv4, trivial⟩
    rw [he] at hm3 hv3
    have hKD : W'.heap[D]? = some (.deferred (some [])) := by
     rw [hm3.same D (by rw [hX2]; exact hDlt) hnM, hX2]; exact hK
    have hnS' : ¬ S' D := by
     intro hS
     rcases hm3.smine D hS with h4 | h4 | h4
     ·rw [hX2] at h4; exact hnS1 h4
     ·exact hnM h4
     ·rw [hX2] at h4
      exact absurd h4 (Nat.not_le.2 hDlt)
    have hmf : Mem X W' S' ρ'' H'' (fun n => [some (Blk.own (Ty.int IntKind.u8) false (xs ++ (escTo s s.size ++ [0, 0])))][n]?) := by
     rw [hX2] at hm3; exact hmX.chain hm3
    refine wpIn_ret ?_
    show LeavesInM Fence.wide 5 _ _ a'.tmps _ a'.defers .returning W'
    rw [hd, hR.defers]
    refine ⟨by simp, .inl ⟨D, _, rfl, run_takeDeferred hKD, ?_⟩⟩
    refine ⟨a'.tmps.getD 4 undef, results_tmp rfl _ _ _, _, S', ρ'', H'', rfl, hmf.turned (grownBy_putObj' W' D _) (fun n B hB => by
     match n with
     | 0 => simp at hB; subst hB; rfl
     | n + 1 => simp at hB) (fun r e => by cases e; exact hnS') (fun r e => by cases e; exact ⟨Nat.le_trans hmem.size hD, _, hKD, rfl⟩), hv3.1⟩
  ·rw [decide_eq_false hlen] at h; simp at h
 ·simp at h
theorem keycode_put.is {g103 : keycode_put8.G} {g104 : reals_Key.G} {g105 : keycode_escaped.G} {s0 : keycode_put.S0} : FnIs (keycode_put.env g103 g104 g105 s0) 73 Go.Proofs.Tryz.f73 := ⟨Go.Proofs.Tryz.func73, rfl, rfl, rfl, by decide⟩
theorem keycode_put.envok {g103 : keycode_put8.G} {g104 : reals_Key.G} {g105 : keycode_escaped.G} {s0 : keycode_put.S0} (h103 : CtOK Go.Proofs.Tryz.prog 103 (keycode_put8.ct g103)) (h104 : CtOK Go.Proofs.Tryz.prog 104 (reals_Key.ct g104)) (h105 : CtOK Go.Proofs.Tryz.prog 105 (keycode_escaped.ct g105)) : EnvOK (keycode_put.env g103 g104 g105 s0).toEnv := by
 intro f c h
 simp only [keycode_put.env] at h
 split at h
 ·rename_i e; subst e; cases h; exact h103
 split at h
 ·rename_i e; subst e; cases h; exact h104
 split at h
 ·rename_i e; subst e; cases h; exact h105
 simp at h
noncomputable abbrev keycode_put.E (k : Nat) : FEnv := keycode_put.env (keycode_put8.f k) (reals_Key.f k) (keycode_escaped.f k) (keycode_put.s0 k)
theorem keycode_put.hE (k : Nat) : EnvOK (keycode_put.E k).toEnv := keycode_put.envok (keycode_put8.ok k) (reals_Key.ok k) (keycode_escaped.ok k)
theorem keycode_put.sk : ∀ k, ∀ s ∈ (keycode_put.E k).segs, SegOK (keycode_put.E k) Go.Proofs.Tryz.f73 s
 | 0 => by
  intro s hs
  simp only [keycode_put.E, keycode_put.env, List.mem_cons, List.not_mem_nil, or_false] at hs
  rcases hs with rfl
  ·exact keycode_put.s0_hand _ _ _ _  _
 | k + 1 => by
  intro s hs
  simp only [keycode_put.E, keycode_put.env, List.mem_cons, List.not_mem_nil, or_false] at hs
  rcases hs with rfl
  ·exact keycode_put.s0_hand _ _ _ _  _
theorem keycode_put.ok (k : Nat) : CtOK Go.Proofs.Tryz.prog 73 (keycode_put.ct (keycode_put.f k)) := by
 refine ct_of_ev (E := keycode_put.E k) keycode_put.is (keycode_put.hE k) (keycode_put.sk k) rfl ?_
 intro tvs blks res h
 simp only [keycode_put.ct] at h
 split at h
 ·exact (keycode_put.ev.trans keycode_put.c_bind).trans h
 ·exact (keycode_put.ev_nil.trans keycode_put.c_bind).trans h
 ·simp at h


namespace keycode_Row
abbrev R : Type := ByteArray × Int
def e (r : R) : Res := ⟨.tup [(.one (.d .str r.1)), (.one (.d (.int .i64) r.2))], []⟩
abbrev T (δ : Type) : Type := (List D_api_Value) → Option δ
abbrev A {δ : Type} (g : T δ) : Arm δ := ⟨[.d (.sl T_api_Value)], [], fun x y => g x.1⟩
abbrev G : Type := T R
def ct (g : G) : Ct := mkCt 0 [] [A g] e
abbrev S0 (δ : Type) : Type := (List D_api_Value) → Int → Int → (List Int) → Option δ
abbrev A_0 {δ : Type} (s : S0 δ) : Arm δ := ⟨[.k (.own 0), .d (.sl T_api_Value), .d (.int .i64), .d (.int .i64)], [.own (.int .u8) false], fun x y => s x.2.1 x.2.2.1 x.2.2.2.1 y.1⟩
def sg0 (s : S0 R) : Seg := mkSg [4, 1, 0, 1, 1] [.own 4 (.int .u8)] [4, 8, 9, 10] [A_0 s] e
section
variable {β : Type} (g51 : values_Check.G) (g73 : keycode_put.G) (s0 : S0 R)
noncomputable abbrev env : FEnv := mkEnv prog f47 [(51, values_Check.ct g51), (73, keycode_put.ct g73)] 0 [] [sg0 s0]
def c (ret : R → Option β) (a0 : List D_api_Value) : Option β := ((s0 a0 (a0.length : Int) (0 : Int) []).bind ret)
def s0c (ret : R → Option β) (x0 : List D_api_Value) (x1 x2 : Int) (x3 : List Int) : Option β := (bif (decide (x2 < x1)) then (bif ((decide ((0 : Int) ≤ x2)) && (decide (x2 < (x0.length : Int)))) then ((g51 (elem T_api_Value x0 x2).1 (elem T_api_Value x0 x2).2.1 (elem T_api_Value x0 x2).2.2.1 (elem T_api_Value x0 x2).2.2.2.1).bind fun r0 => (bif (r0 != (0 : Int)) then (ret ((ByteArray.mk (List.toArray [])), r0)) else ((g73 (elem T_api_Value x0 x2).1 (elem T_api_Value x0 x2).2.1 (elem T_api_Value x0 x2).2.2.1 (elem T_api_Value x0 x2).2.2.2.1 x3).bind fun r1 => ((s0 x0 x1 (IntKind.wrap .i64 (x2 + (1 : Int))) r1).bind ret)))) else none) else (ret ((ByteArray.mk (List.toArray (List.map (fun n => (UInt8.ofNat (Int.toNat n))) x3))), (0 : Int))))
variable {g51} {g73} {s0}
theorem ev : EvA (env g51 g73 s0) [] [0] e (A (c s0 some)) := fun x y => Eq.trans (b := (A (c s0 fun r => some (e r))).G x y) (by kernel_rfl) (by simp only [A, c, bo, so, oa, os, on, ofs])
theorem s0_ev : EvA (env g51 g73 s0) [4, 1, 0, 1, 1] [4, 8, 9, 10] e (A_0 (s0c g51 g73 s0 some)) := fun x y => Eq.trans (b := (A_0 (s0c g51 g73 s0 fun r => some (e r))).G x y) (by kernel_rfl) (by simp only [A_0, s0c, bo, so, oa, os, on, ofs])
end
def s0 : Nat → S0 R
 | 0, _, _, _, _ => none
 | k + 1, x0, x1, x2, x3 => s0c (values_Check.f k) (keycode_put.f k) (s0 k) some x0 x1 x2 x3
def f (k : Nat) (a0 : List D_api_Value) : Option R := c (s0 k) some a0
noncomputable abbrev E (k : Nat) : FEnv := env (values_Check.f k) (keycode_put.f k) (s0 k)
theorem hE (k : Nat) : EnvOK (E k).toEnv := ctsOK (Lc (values_Check.ok k) (Lc (keycode_put.ok k) L0))
theorem sk : ∀ k, ∀ s ∈ [sg0 (s0 k)], SegB prog f47 0 s
 | 0 => (Lc (sn (Lc (fun _ _ => rfl) L0)) L0)
 | k + 1 => (Lc (sg_ok (hE k) (sk k) (Lc s0_ev L0)) L0)
theorem ok (k : Nat) : CtOK prog 47 (ct (f k)) := fn_ok func47 rfl (by decide) (hE k) (sk k) (Lc ev L0)
end keycode_Row
namespace schema_Key
abbrev R : Type := ByteArray × Int
def e (r : R) : Res := ⟨.tup [(.one (.d .str r.1)), (.one (.d (.int .i64) r.2))], []⟩
abbrev T (δ : Type) : Type := ByteArray → Int → (List D_api_Col) → (List D_api_Value) → Option δ
abbrev A {δ : Type} (g : T δ) : Arm δ := ⟨[.s T_api_Table, .d (.sl T_api_Value)], [], fun x y => g x.1.1.1 x.1.1.2.1 x.1.1.2.2.1 x.2.1⟩
abbrev G : Type := T R
def ct (g : G) : Ct := mkCt 0 [] [A g] e
section
variable {β : Type} (g20 : schema_Fits.G) (g47 : keycode_Row.G)
noncomputable abbrev env : FEnv := mkEnv prog f21 [(20, schema_Fits.ct g20), (47, keycode_Row.ct g47)] 0 [] []
def c (ret : R → Option β) (a0 : ByteArray) (a1 : Int) (a2 : List D_api_Col) (a3 : List D_api_Value) : Option β := ((g20 a0 a1 a2 a3).bind fun r0 => (bif (r0 != (0 : Int)) then (ret ((ByteArray.mk (List.toArray [])), r0)) else (bif ((true && (decide ((0 : Int) ≤ a1))) && (decide (a1 ≤ (a3.length : Int)))) then ((g47 (List.take ((Int.toNat a1) - (0 : Nat)) (List.drop (0 : Nat) a3))).bind fun r1 => (ret (r1.1, r1.2))) else none)))
variable {g20} {g47}
theorem ev : EvA (env g20 g47) [] [0, 1] e (A (c g20 g47 some)) := fun x y => Eq.trans (b := (A (c g20 g47 fun r => some (e r))).G x y) (by kernel_rfl) (by simp only [A, c, bo, so, oa, os, on, ofs])
end
def f (k : Nat) (a0 : ByteArray) (a1 : Int) (a2 : List D_api_Col) (a3 : List D_api_Value) : Option R := c (schema_Fits.f k) (keycode_Row.f k) some a0 a1 a2 a3
noncomputable abbrev E (k : Nat) : FEnv := env (schema_Fits.f k) (keycode_Row.f k) 
theorem hE (k : Nat) : EnvOK (E k).toEnv := ctsOK (Lc (schema_Fits.ok k) (Lc (keycode_Row.ok k) L0))
theorem ok (k : Nat) : CtOK prog 21 (ct (f k)) := fn_ok func21 rfl (by decide) (hE k) L0 (Lc ev L0)
end schema_Key
end Go.Proofs.YtijjlpgcpdapnaaGreatDoor.Aev
