/- By a program of this session (AEV): functions of the program as plain functions, and that the machine does what they say. -/
import Derived.Test.YtdbbkmmillnaiaaGreatDoorTys
import Derived.Test.YtdbbkmmillnaiaaGreatDoorProg
import Derived.Laws.Externs
import Derived.Lib.Bytealg
import Derived.Test.YtdbbkmmillnaiaaGreatDoorF2
import Derived.Test.YtdbbkmmillnaiaaGreatDoorF3
import Derived.Test.YtdbbkmmillnaiaaGreatDoorF5
import Derived.Test.YtdbbkmmillnaiaaGreatDoorAevY
import Derived.Test.YtdbbkmmillnaiaaGreatDoorEsc
namespace Go.Proofs.YtdbbkmmillnaiaaGreatDoor.Aev
set_option linter.unusedVariables false
set_option linter.unusedSimpArgs false
set_option maxRecDepth 100000
set_option maxHeartbeats 4000000
open Go Go.Proofs.Tryz
namespace keycode_put8
abbrev G : Type := Int → (List Int) → Option ((List Int))
def ct (g : G) : Ct where
  nin := 0
  mv := [0]
  F := fun tvs blks {β} K => match tvs, blks with
    | [.v (.one (.own 0)), .v (.one (.d (.int .u64) a0))], [.own (.int .u8) false a1] => (g a0 a1).bind fun r => K ⟨.v (.one (.own 0)), [some (.own (.int .u8) false r)]⟩
    | _, _ => none
  legit := fun _ _ K _ h => by split at h; exact (legit1 K h :); simp at h
abbrev S0 : Type := Int → Int → (List Int) → Option ((List Int))
def sg0 (g : S0) : Seg where
  path := [4, 1, 0, 1]
  prep := []
  keep := [0, 1, 5]
  F := fun tvs blks {β} K => match tvs, blks with
    | [.v (.one (.own 0)), .v (.one (.d (.int .u64) x0)), .v (.one (.d (.int .i64) x1))], [some (.own (.int .u8) false x2)] => (g x0 x1 x2).bind fun r => K ⟨.v (.one (.own 0)), [some (.own (.int .u8) false r)]⟩
    | _, _ => none
  legit := fun _ _ K _ h => by split at h; exact (legit1 K h :); simp at h
noncomputable def env  (s0 : S0) : FEnv := { P := prog, ct := fun m => none, N := 18, body := f60.body.getD .skip, rvs := [.tmp 4], rts := [82], nin := 0, rmv := [0], segs := [sg0 s0] }
def c {β : Type}  (s0 : S0) (a0 : Int) (a1 : List Int) (ret : ((List Int)) → Option β) : Option β := ((s0 a0 (56 : Int) a1).bind ret)
def s0c {β : Type}  (s0 : S0) (x0 : Int) (x1 : Int) (x2 : List Int) (ret : ((List Int)) → Option β) : Option β := (bif (decide (x1 ≥ (0 : Int))) then (bif (decide ((0 : Int) ≤ x1)) then (bif (decide ((((List.length x2) + (1 : Nat)) * (1 : Nat)) ≤ (35184372088832 : Nat))) then ((s0 x0 (IntKind.wrap IntKind.i64 (x1 - (8 : Int))) (x2 ++ [(IntKind.wrap IntKind.u8 (Int.fdiv x0 ((2 : Int) ^ (Min.min (Int.toNat x1) (64 : Nat)))))])).bind ret) else none) else none) else (ret (x2)))
theorem c_bind {β : Type}  {s0 : S0} {a0 : Int} {a1 : List Int} {ret : ((List Int)) → Option β} : c  s0 a0 a1 ret = (c  s0 a0 a1 some).bind ret := by
  simp only [c, bif_bind, sum_bind, oa, os, on, ofs]
theorem s0c_bind {β : Type}  {s0 : S0} {x0 : Int} {x1 : Int} {x2 : List Int} {ret : ((List Int)) → Option β} : s0c  s0 x0 x1 x2 ret = (s0c  s0 x0 x1 x2 some).bind ret := by
  simp only [s0c, bif_bind, sum_bind, oa, os, on, ofs]
theorem ev  {s0 : S0} {a0 : Int} {a1 : List Int} : evAt (env  s0) [] [0, 1] [.v (.one (.own 0)), .v (.one (.d (.int .u64) a0))] [some (.own (.int .u8) false a1)] some = c  s0 a0 a1 (fun r => some ⟨.v (.one (.own 0)), [some (.own (.int .u8) false r)]⟩) := by
  kernel_rfl
theorem s0_ev  {s0 : S0} {x0 : Int} {x1 : Int} {x2 : List Int} : evAt (env  s0) [4, 1, 0, 1] [0, 1, 5] [.v (.one (.own 0)), .v (.one (.d (.int .u64) x0)), .v (.one (.d (.int .i64) x1))] [some (.own (.int .u8) false x2)] some = s0c  s0 x0 x1 x2 (fun r => some ⟨.v (.one (.own 0)), [some (.own (.int .u8) false r)]⟩) := by
  kernel_rfl
def s0 : Nat → Int → Int → (List Int) → Option ((List Int))
  | 0, _, _, _ => none
  | k + 1, x0, x1, x2 => s0c  (s0 k) x0 x1 x2 some
def f (k : Nat) (a0 : Int) (a1 : List Int) : Option ((List Int)) := c  (s0 k) a0 a1 some
theorem is  {s0 : S0} : FnIs (env  s0) 60 f60 := ⟨func60, rfl, rfl, rfl, by decide⟩
theorem envok  {s0 : S0}  : EnvOK (env  s0).toEnv := by
  intro f c h
  simp only [env] at h
  simp at h
noncomputable abbrev E (k : Nat) : FEnv := env  (s0 k)
theorem hE (k : Nat) : EnvOK (E k).toEnv := envok 
theorem segs_ok : ∀ k, ∀ s ∈ (E k).segs, SegOK (E k) f60 s
  | 0 => by
    intro s hs
    simp only [E, env, List.mem_cons, List.not_mem_nil, or_false] at hs
    rcases hs with rfl
    · intro tvs blks res h; exfalso; simp only [sg0] at h; split at h <;> simp [s0] at h
  | k + 1 => by
    intro s hs
    simp only [E, env, List.mem_cons, List.not_mem_nil, or_false] at hs
    rcases hs with rfl
    · refine seg_of_ev (E := E k) (hE k) ⟨is.rvs⟩ (segs_ok k) ?_
      intro tvs blks res h
      simp only [sg0] at h
      split at h
      · exact (s0_ev.trans s0c_bind).trans h
      · simp at h
theorem ok (k : Nat) : CtOK prog 60 (ct (f k)) := by
  refine ct_of_ev (E := E k) is (hE k) (segs_ok k) rfl ?_
  intro tvs blks res h
  simp only [ct] at h
  split at h
  · exact (ev.trans c_bind).trans h
  · simp at h
end keycode_put8
namespace reals_Key
abbrev G : Type := Int → Option Int
def ct (g : G) : Ct where
  nin := 0
  mv := []
  F := fun tvs blks {β} K => match tvs, blks with
    | [.v (.one (.d (.int .u64) a0))], [] => (g a0).bind fun r => K ⟨.v (.one (.d (.int .u64) r)), []⟩
    | _, _ => none
  legit := fun _ _ K _ h => by split at h; exact (legit1 K h :); simp at h
noncomputable def env (g58 : reals_Canon.G)  : FEnv := { P := prog, ct := fun m => if m = 58 then some (reals_Canon.ct g58) else none, N := 12, body := f61.body.getD .skip, rvs := [.tmp 2], rts := [47], nin := 0, rmv := [], segs := [] }
def c {β : Type} (g58 : reals_Canon.G)  (a0 : Int) (ret : Int → Option β) : Option β := ((g58 a0).bind fun r0 => (bif ((IntKind.wrap IntKind.u64 ((BitVec.toNat ((BitVec.ofInt (64 : Nat) r0) &&& (BitVec.ofInt (64 : Nat) (9223372036854775808 : Int)))) : Int)) != (0 : Int)) then (ret ((IntKind.wrap IntKind.u64 ((BitVec.toNat ((BitVec.ofInt (64 : Nat) (18446744073709551615 : Int)) ^^^ (BitVec.ofInt (64 : Nat) r0))) : Int)))) else (ret ((IntKind.wrap IntKind.u64 ((BitVec.toNat ((BitVec.ofInt (64 : Nat) r0) ||| (BitVec.ofInt (64 : Nat) (9223372036854775808 : Int)))) : Int))))))
theorem c_bind {β : Type} {g58 : reals_Canon.G}  {a0 : Int} {ret : Int → Option β} : c g58  a0 ret = (c g58  a0 some).bind ret := by
  simp only [c, bif_bind, sum_bind, oa, os, on, ofs]
theorem ev {g58 : reals_Canon.G}  {a0 : Int} : evAt (env g58 ) [] [0] [.v (.one (.d (.int .u64) a0))] [] some = c g58  a0 (fun r => some ⟨.v (.one (.d (.int .u64) r)), []⟩) := by
  kernel_rfl
def f (k : Nat) (a0 : Int) : Option Int := c (reals_Canon.f k)  a0 some
theorem is {g58 : reals_Canon.G}  : FnIs (env g58 ) 61 f61 := ⟨func61, rfl, rfl, rfl, by decide⟩
theorem envok {g58 : reals_Canon.G}  (h58 : CtOK prog 58 (reals_Canon.ct g58)) : EnvOK (env g58 ).toEnv := by
  intro f c h
  simp only [env] at h
  split at h
  · rename_i e; subst e; cases h; exact h58
  simp at h
noncomputable abbrev E (k : Nat) : FEnv := env (reals_Canon.f k) 
theorem hE (k : Nat) : EnvOK (E k).toEnv := envok (reals_Canon.ok k)
theorem ok (k : Nat) : CtOK prog 61 (ct (f k)) := by
  refine ct_of_ev (E := E k) is (hE k) (fun s hs => by simp [E, env] at hs) rfl ?_
  intro tvs blks res h
  simp only [ct] at h
  split at h
  · exact (ev.trans c_bind).trans h
  · simp at h
end reals_Key
namespace keycode_escaped
abbrev G : Type := ByteArray → Option ByteArray
def ct (g : G) : Ct where
  nin := 0
  mv := []
  F := fun tvs blks {β} K => match tvs, blks with
    | [.v (.one (.d .str a0))], [] => (g a0).bind fun r => K ⟨.v (.one (.fn 81 [(0, 0)])), [some (.box [(.d .str r)])]⟩
    | _, _ => none
  legit := fun _ _ K _ h => by split at h; exact (legit1 K h :); simp at h
noncomputable def env   : FEnv := { P := prog, ct := fun m => none, N := 4, body := f62.body.getD .skip, rvs := [.tmp 2], rts := [104], nin := 0, rmv := [], segs := [] }
def c {β : Type}   (a0 : ByteArray) (ret : ByteArray → Option β) : Option β := (ret (a0))
theorem c_bind {β : Type}   {a0 : ByteArray} {ret : ByteArray → Option β} : c   a0 ret = (c   a0 some).bind ret := by
  simp only [c, bif_bind, sum_bind, oa, os, on, ofs]
theorem ev   {a0 : ByteArray} : evAt (env  ) [] [0] [.v (.one (.d .str a0))] [] some = c   a0 (fun r => some ⟨.v (.one (.fn 81 [(0, 0)])), [some (.box [(.d .str r)])]⟩) := by
  kernel_rfl
def f (k : Nat) (a0 : ByteArray) : Option ByteArray := c   a0 some
theorem is   : FnIs (env  ) 62 f62 := ⟨func62, rfl, rfl, rfl, by decide⟩
theorem envok    : EnvOK (env  ).toEnv := by
  intro f c h
  simp only [env] at h
  simp at h
noncomputable abbrev E (k : Nat) : FEnv := env  
theorem hE (k : Nat) : EnvOK (E k).toEnv := envok 
theorem ok (k : Nat) : CtOK prog 62 (ct (f k)) := by
  refine ct_of_ev (E := E k) is (hE k) (fun s hs => by simp [E, env] at hs) rfl ?_
  intro tvs blks res h
  simp only [ct] at h
  split at h
  · exact (ev.trans c_bind).trans h
  · simp at h
end keycode_escaped
/-! ### keycode_put: function 43 -/
abbrev keycode_put.G : Type := Int → Int → Int → ByteArray → (List Int) → Option ((List Int))
def keycode_put.ct (g : keycode_put.G) : Ct where
  nin := 0
  mv := [0]
  F := fun tvs blks {β} K => match tvs, blks with
    | [.v (.one (.own 0)), .v (.agg [(.d (.int .i64) a0), (.d (.int .i64) a1), (.d (.int .u64) a2), (.d .str a3)])], [.own (.int .u8) false a4] => (g a0 a1 a2 a3 a4).bind fun r => K ⟨.v (.one (.own 0)), [some (.own (.int .u8) false r)]⟩
    | [.v (.one (.raw (.slice none 0 0))), .v (.agg [(.d (.int .i64) a0), (.d (.int .i64) a1), (.d (.int .u64) a2), (.d .str a3)])], [] => (g a0 a1 a2 a3 []).bind fun r => K ⟨.v (.one (.own 0)), [some (.own (.int .u8) false r)]⟩
    | _, _ => none
  legit := fun tvs blks K r h => by
    split at h
    · obtain ⟨x, hx, hk⟩ := Option.bind_eq_some_iff.1 h
      refine ⟨_, ?_, hk⟩
      simp only [hx, Option.bind_some]
    · obtain ⟨x, hx, hk⟩ := Option.bind_eq_some_iff.1 h
      refine ⟨_, ?_, hk⟩
      simp only [hx, Option.bind_some]
    · simp at h
abbrev keycode_put.S0 : Type := ByteArray → (List Int) → Option ((List Int))
def keycode_put.sg0 (g : keycode_put.S0) : Seg where
  path := [4, 1, 2, 1, 3, 1, 3, 1, 3, 1, 4, 1, 0, 1, 1]
  prep := []
  keep := [2, 42]
  F := fun tvs blks {β} K => match tvs, blks with
    | [.v (.one (.ptr 0 0)), .v (.one (.fn 81 [(1, 0)]))], [some (.box [(.own 2)]), some (.box [(.d .str x0)]), some (.own (.int .u8) false x1)] => (g x0 x1).bind fun r => K ⟨.v (.one (.own 0)), [some (.own (.int .u8) false r)]⟩
    | _, _ => none
  legit := fun _ _ K _ h => by split at h; exact (legit1 K h :); simp at h
noncomputable def keycode_put.env (g60 : keycode_put8.G) (g61 : reals_Key.G) (g62 : keycode_escaped.G) (s0 : keycode_put.S0) : FEnv := { P := Go.Proofs.Tryz.prog, ct := fun m => if m = 60 then some (keycode_put8.ct g60) else if m = 61 then some (reals_Key.ct g61) else if m = 62 then some (keycode_escaped.ct g62) else none, N := 49, body := Go.Proofs.Tryz.f43.body.getD .skip, rvs := [.tmp 4], rts := [82], nin := 0, rmv := [0], segs := [keycode_put.sg0 s0] }
def keycode_put.c {β : Type} (g60 : keycode_put8.G) (g61 : reals_Key.G) (g62 : keycode_escaped.G) (s0 : keycode_put.S0) (a0 : Int) (a1 : Int) (a2 : Int) (a3 : ByteArray) (a4 : List Int) (ret : ((List Int)) → Option β) : Option β := (bif (decide ((((List.length a4) + (1 : Nat)) * (1 : Nat)) ≤ (35184372088832 : Nat))) then (bif (a0 == (1 : Int)) then (bif (decide ((((List.length (a4 ++ [(IntKind.wrap IntKind.u8 a0)])) + (1 : Nat)) * (1 : Nat)) ≤ (35184372088832 : Nat))) then (ret (((a4 ++ [(IntKind.wrap IntKind.u8 a0)]) ++ [(IntKind.wrap IntKind.u8 a1)]))) else none) else (bif (a0 == (2 : Int)) then ((g60 (IntKind.wrap IntKind.u64 ((BitVec.toNat ((BitVec.ofInt (64 : Nat) (IntKind.wrap IntKind.u64 a1)) ^^^ (BitVec.ofInt (64 : Nat) (9223372036854775808 : Int)))) : Int)) (a4 ++ [(IntKind.wrap IntKind.u8 a0)])).bind fun r0 => (ret (r0))) else (bif (a0 == (3 : Int)) then ((g61 a2).bind fun r1 => ((g60 r1 (a4 ++ [(IntKind.wrap IntKind.u8 a0)])).bind fun r2 => (ret (r2)))) else (bif (a0 == (4 : Int)) then (bif (a0 == (4 : Int)) then ((g62 a3).bind fun r3 => ((s0 r3 (a4 ++ [(IntKind.wrap IntKind.u8 a0)])).bind ret)) else (ret ((a4 ++ [(IntKind.wrap IntKind.u8 a0)])))) else (bif (a0 == (5 : Int)) then ((g62 a3).bind fun r4 => ((s0 r4 (a4 ++ [(IntKind.wrap IntKind.u8 a0)])).bind ret)) else (ret ((a4 ++ [(IntKind.wrap IntKind.u8 a0)])))))))) else none)
theorem keycode_put.c_bind {β : Type} {g60 : keycode_put8.G} {g61 : reals_Key.G} {g62 : keycode_escaped.G} {s0 : keycode_put.S0} {a0 : Int} {a1 : Int} {a2 : Int} {a3 : ByteArray} {a4 : List Int} {ret : ((List Int)) → Option β} : keycode_put.c g60 g61 g62 s0 a0 a1 a2 a3 a4 ret = (keycode_put.c g60 g61 g62 s0 a0 a1 a2 a3 a4 some).bind ret := by
  simp only [keycode_put.c, bif_bind, sum_bind, oa, os, on, ofs]
theorem keycode_put.ev {g60 : keycode_put8.G} {g61 : reals_Key.G} {g62 : keycode_escaped.G} {s0 : keycode_put.S0} {a0 : Int} {a1 : Int} {a2 : Int} {a3 : ByteArray} {a4 : List Int} : evAt (keycode_put.env g60 g61 g62 s0) [] [0, 1] [.v (.one (.own 0)), .v (.agg [(.d (.int .i64) a0), (.d (.int .i64) a1), (.d (.int .u64) a2), (.d .str a3)])] [some (.own (.int .u8) false a4)] some = keycode_put.c g60 g61 g62 s0 a0 a1 a2 a3 a4 (fun r => some ⟨.v (.one (.own 0)), [some (.own (.int .u8) false r)]⟩) := by
  kernel_rfl
theorem keycode_put.ev_nil {g60 : keycode_put8.G} {g61 : reals_Key.G} {g62 : keycode_escaped.G} {s0 : keycode_put.S0} {a0 : Int} {a1 : Int} {a2 : Int} {a3 : ByteArray} : evAt (keycode_put.env g60 g61 g62 s0) [] [0, 1] [.v (.one (.raw (.slice none 0 0))), .v (.agg [(.d (.int .i64) a0), (.d (.int .i64) a1), (.d (.int .u64) a2), (.d .str a3)])] [] some = keycode_put.c g60 g61 g62 s0 a0 a1 a2 a3 [] (fun r => some ⟨.v (.one (.own 0)), [some (.own (.int .u8) false r)]⟩) := by
  kernel_rfl
def keycode_put.s0 (k : Nat) : ByteArray → (List Int) → Option ((List Int)) := fun s xs => bif decide (xs.length + 2 * s.size + 2 ≤ 2 ^ 45) then some (xs ++ (escTo s s.size ++ [0, 0])) else none
def keycode_put.f (k : Nat) (a0 : Int) (a1 : Int) (a2 : Int) (a3 : ByteArray) (a4 : List Int) : Option ((List Int)) := keycode_put.c (keycode_put8.f k) (reals_Key.f k) (keycode_escaped.f k) (keycode_put.s0 k) a0 a1 a2 a3 a4 some
/-! the loop over escaped's bytes -/
def keycode_put.blkOf (s : ByteArray) (ys : List Int) (n : Nat) : Option (Option Blk) := [some (.box [.own 2]), some (.box [.d .str s]), some (.own (.int .u8) false ys)][n]?
noncomputable def keycode_put.bodyOps : Array Oper := match codeAt (Go.Proofs.Tryz.f43.body.getD .skip) [4, 1, 2, 1, 3, 1, 3, 1, 3, 1, 4, 1, 0, 1, 1] with
  | some (.rangeFunc _ _ _ (.block _ (.region _ ops _)), _) => ops
  | _ => #[]
noncomputable def keycode_put.endOps : Array Oper := match codeAt (Go.Proofs.Tryz.f43.body.getD .skip) [0, 1, 1, 1] with
  | some (.region _ ops _, _) => ops
  | _ => #[]
noncomputable def keycode_put.E0 : Env := { P := Go.Proofs.Tryz.prog, ct := fun _ => none, N := 49 }
theorem keycode_put.body_plain : plainOps keycode_put.bodyOps = true := by kernel_rfl
theorem keycode_put.end_plain : plainOps keycode_put.endOps = true := by kernel_rfl
theorem keycode_put.body_ev (s : ByteArray) (ys : List Int) (x : Int) : evOps keycode_put.E0 keycode_put.bodyOps 100 (fun st _ => ((packN 2 [] [] : AM _).run st []).map (·.1)) (List.range keycode_put.bodyOps.size)
    (stOf [2, 5] [.v (.one (.ptr 0 0)), .v (.one (.d (.int .u8) x))] [some (.box [.own 2]), some (.box [.d .str s]), some (.own (.int .u8) false ys)]) [] =
      bif decide ((ys.length + 1) * 1 ≤ 2 ^ 45) then some ([], [some (.box [.own 2]), some (.box [.d .str s]), some (.own (.int .u8) false (ys ++ [x]))]) else none := by
  kernel_rfl
theorem keycode_put.end_ev (s : ByteArray) (ys : List Int) : evOps keycode_put.E0 keycode_put.endOps 100 (fun st _ => ((do packN 0 [] [← AM.rT 4] : AM _).run st []).map (·.1)) (List.range keycode_put.endOps.size)
    (stOf [2] [.v (.one (.ptr 0 0))] [some (.box [.own 2]), some (.box [.d .str s]), some (.own (.int .u8) false ys)]) [] = some ([.v (.one (.own 0))], [some (.own (.int .u8) false ys)]) := by
  kernel_rfl
set_option maxHeartbeats 1000000 in
theorem keycode_put.s0_hand (g51 : Int → (List Int) → Option ((List Int))) (g52 : Int → Option Int) (g53 : ByteArray → Option ByteArray) (s0 : ByteArray → (List Int) → Option ((List Int))) (k : Nat) :
    SegOK (keycode_put.env g51 g52 g53 s0) Go.Proofs.Tryz.f43 (keycode_put.sg0 (keycode_put.s0 k)) := by
  intro tvs blks res h c stk hc X w S ρ H a hX hR
  simp only [keycode_put.sg0] at h hc hR
  split at h
  · rename_i s xs
    simp only [keycode_put.s0] at h
    by_cases hlen : xs.length + 2 * s.size + 2 ≤ 2 ^ 45
    · rw [decide_eq_true hlen] at h
      simp only [cond_true, Option.bind_some, Option.some.injEq] at h
      subst h
      simp only [keycode_put.env, Go.Proofs.Tryz.f43, Option.getD_some, codeAt, Option.some.injEq, Prod.mk.injEq] at hc
      obtain ⟨rfl, rfl⟩ := hc
      have hN : (keycode_put.env g51 g52 g53 s0).N = 49 := rfl
      have hmem : Mem X w S ρ H (keycode_put.blkOf s xs) := hR.mem
      -- the state
      obtain ⟨b0, hb0, ht2⟩ : ∃ b, ρ 0 = some (Ptr b 0) ∧ a.tmps.getD 2 undef = Ptr b 0 := hR.tmp 2 _ rfl
      obtain ⟨vs, ht42, hvs⟩ : ∃ vs : Array Value, a.tmps.getD 42 undef = .func (.func 81) #[] vs ∧ All2 (fun (p : Nat × Nat) u => ∃ b, ρ p.1 = some (Ptr b 0) ∧ u = Ptr b p.2) [(1, 0)] vs.toList := hR.tmp 42 _ rfl
      obtain ⟨u, l, hul, ⟨b1, hb1, rfl⟩, hl⟩ := All2.cons_left hvs
      rw [hl.nil_left] at hul
      obtain rfl : vs = #[Ptr b1 0] := by apply Array.toList_inj.1; rw [hul]
      -- the text's box
      have hcell : ∀ {X : Cx} {W : World} {S : Nat → Prop} {ρ1 : Nat → Option Value} {H1 : Nat → Option Nat} {blk : Nat → Option (Option Blk)}, Mem X W S ρ1 H1 blk → blk 1 = some (some (.box [.d .str s])) → ρ1 1 = some (Ptr b1 0) → W.cell? ⟨b1, 0, none⟩ = some (.string s) := by
        intro X W S ρ1 H1 blk hm hb h1
        obtain ⟨b, vs, e, _, h2, h3, h4⟩ := hm.rep 1 _ hb
        rw [h1] at h2
        simp at h2; subst h2
        obtain ⟨v, m, hv, hr, hn⟩ := All2.cons_left h4
        rw [hn.nil_left] at hv
        have hv0 : vs = #[v] := by apply Array.toList_inj.1; rw [hv]
        have : v = .string s := by simpa [RepAV, Rd] using hr
        simp [World.cell?, h3, hv0, this]
      have hc0 := hcell hmem rfl hb1
      have hb1lt : b1 < w.heap.size := by
        obtain ⟨b, vs, e, _, h2, h3, h4⟩ := hmem.rep 1 _ rfl
        rw [hb1] at h2
        simp at h2; subst h2
        exact (Array.getElem?_eq_some_iff.1 h3).1
      show Code.wp _ _ _ _ _
      refine (wpIn_wide (n := 5)).1 ?_
      obtain ⟨X1, hX1⟩ : ∃ X1, X1 = Mem.cx X w S ρ H (keycode_put.blkOf s xs) 2 := ⟨_, rfl⟩
      have hm1 : Mem X1 w S ρ H (keycode_put.blkOf s xs) := hX1 ▸ hmem.restart 2
      have hw1 : X1.w0 = w := by rw [hX1]; rfl
      have hS1 : X1.S0 = S := by rw [hX1]; rfl
      have hX0 : ∀ n, X.ρ0 n = none := by
        intro n
        cases hn : X.ρ0 n with
        | none => rfl
        | some v => exact absurd (hX n v hn) (by simp [keycode_put.env])
      have hρ1 : ∀ n v, X1.ρ0 n = some v → n < 2 := by
        intro n v hn
        rw [hX1] at hn
        simp only [Mem.cx, hX0] at hn
        split at hn
        · assumption
        · simp at hn
      have hmpB : ∀ (ys : List Int) (n : Nat) (B : Blk), keycode_put.blkOf s ys n = some (some B) → B.isMp = false := by
        intro ys n B hB
        match n with
        | 0 => simp [keycode_put.blkOf] at hB; subst hB; rfl
        | 1 => simp [keycode_put.blkOf] at hB; subst hB; rfl
        | 2 => simp [keycode_put.blkOf] at hB; subst hB; rfl
        | n + 3 => simp [keycode_put.blkOf] at hB
      have hnames : ∀ {W : World} {S' : Nat → Prop} {ρ1 : Nat → Option Value} {H1 : Nat → Option Nat} {blk : Nat → Option (Option Blk)}, Mem X1 W S' ρ1 H1 blk → ρ1 0 = some (Ptr b0 0) ∧ ρ1 1 = some (Ptr b1 0) := by
        intro W S' ρ1 H1 blk hm
        exact ⟨hm.names 0 _ (by rw [hX1]; simp [Mem.cx, hb0]), hm.names 1 _ (by rw [hX1]; simp [Mem.cx, hb1])⟩
      refine wpIn_rangeFunc_ownF (F := Fence.wide) rfl (by omega) (gf := 81) (lb := #[Ptr b1 0]) ht42 trivial (enters_of Go.Proofs.Tryz.func81 (by kernel_rfl) rfl) (encs := fun x : Int => #[.int .u8 x])
        (Kp := KC b1) (w0 := w) (esc_stops Fence.wide 4 trivial rfl (by omega) b1 s w hc0 hb1lt (by omega)) (fun h1 h2 => h2.trans h1) ?hKb (RowKit.Below.refl _ _) (fun _ => rfl)
        (fun pre W => ∃ S1 ρ1 H1, Mem X1 W S1 ρ1 H1 (keycode_put.blkOf s (xs ++ pre)) ∧ ∀ b, S1 b → S b ∨ ∃ (vs : Array Value) (e : TypeId) (fr : Nat × Nat), W.heap[b]? = some (Obj.cells vs e fr)) (fun _ _ _ => False) ?hI (fun _ _ _ _ _ h _ _ => h) ⟨S, ρ, H, by rw [List.append_nil]; exact hm1, fun b h => .inl h⟩
        (fun x => { tmps := (a.tmps.setIfInBounds 43 (.int .u8 x)).setIfInBounds 5 (.int .u8 x), defers := [] }) ?assign ?body ?done (fun _ _ _ _ _ _ h _ => h.elim)
      case hKb =>
        intro W l o o' hl _ _ _
        show (W.putObj l o').cell? _ = W.cell? _
        unfold World.cell?
        rw [World.putObj_heap_other (by show b1 ≠ l; omega)]
      case hI =>
        rintro pre W W' row ⟨S1, ρ1, H1, hm, hc⟩ hg hr
        have hnr : ∀ r, row = some r → ¬ S1 r := by
          intro r e hS
          obtain ⟨h1, o, h2, h3⟩ := hr r e
          rcases hc r hS with h4 | ⟨vs, e', fr, h4⟩
          · have := hmem.old r h4; omega
          · rw [h4] at h2; cases h2; simp [Obj.isCells] at h3
        refine ⟨S1, ρ1, H1, hm.turned hg (hmpB _) hnr (by rw [hw1]; exact hr), fun b hb => ?_⟩
        rcases hc b hb with h4 | ⟨vs, e', fr, h4⟩
        · exact .inl h4
        · refine .inr ⟨vs, e', fr, ?_⟩
          rw [← h4]
          exact hg.block b (Array.getElem?_eq_some_iff.1 h4).1 (fun e => hnr b e.symm hb)
      case assign =>
        intro l x W K hK
        refine wpIn_region ?_
        have hsz : 49 ≤ a.tmps.size := hR.size
        have hv : ((a.tmps.setIfInBounds 43 (Value.int IntKind.u8 x)).getD 43 undef) = .int .u8 x := by
          rw [Array.getD_eq_getD_getElem?, Array.getElem?_setIfInBounds_self_of_lt (by omega)]; rfl
        simp [wpOpsIn, Region.wanted, Oper.wpIn]
        refine ⟨fun _ _ => trivial, ?_⟩
        rw [show (some l) = (Fence.wide.inRound l).round from rfl, Oper.semAt_plain (Fence.wide.inRound l) _ _ (by intro c h; cases h)]
        have hrun : (execOp (Act.eval { tmps := a.tmps.setIfInBounds 43 (Value.int IntKind.u8 x), defers := [] }) { dst := some 5, op := Op.assign (Operand.tmp 43), type := 5, pos := "keycode.go:57", after := #[], guard := none }).run Go.Proofs.Tryz.prog W = .ok (.value (.int .u8 x)) W := by
          simp [execOp, Act.eval, hv]
        exact (congrArg _ hrun).mpr hK
      case body =>
        rintro l pre x W ⟨S1, ρ1, H1, hm, hc⟩ hlt
        obtain ⟨hn0, hn1⟩ := hnames hm
        have hsz : 49 ≤ a.tmps.size := hR.size
        obtain ⟨X2, hX2⟩ : ∃ X2, X2 = Mem.cx X1 W S1 ρ1 H1 (keycode_put.blkOf s (xs ++ pre)) 2 := ⟨_, rfl⟩
        have hm2 : Mem X2 W S1 ρ1 H1 (keycode_put.blkOf s (xs ++ pre)) := hX2 ▸ hm.restart 2
        have hρ2 : ∀ n v, X2.ρ0 n = some v → n < 2 := by
          intro n v hn
          rw [hX2] at hn
          simp only [Mem.cx] at hn
          split at hn
          · assumption
          · exact hρ1 n v hn
        refine wpIn_block ?_
        have hRb : Rep X2 W S1 ρ1 H1 keycode_put.E0.N (stOf [2, 5] [.v (.one (.ptr 0 0)), .v (.one (.d (.int .u8) x))] [some (.box [.own 2]), some (.box [.d .str s]), some (.own (.int .u8) false (xs ++ pre))])
            { tmps := (a.tmps.setIfInBounds 43 (.int .u8 x)).setIfInBounds 5 (.int .u8 x), defers := [] } := by
          refine { mem := hm2, tmp := ?_, size := by simpa [keycode_put.E0] using hsz, defers := rfl }
          intro t v ht
          obtain ⟨i, h1, h2⟩ := stOf_tmp ht
          match i with
          | 0 =>
            simp at h1 h2; subst h1; subst h2
            refine ⟨b0, hn0, ?_⟩
            rw [Array.getD_eq_getD_getElem?] at ht2 ⊢
            rw [Array.getElem?_setIfInBounds_ne (by decide), Array.getElem?_setIfInBounds_ne (by decide)]
            exact ht2
          | 1 =>
            simp at h1 h2; subst h1; subst h2
            rw [Array.getD_eq_getD_getElem?, Array.getElem?_setIfInBounds_self_of_lt (by simp; omega)]
            exact rfl
          | i + 2 => simp at h1
        have hle : (xs ++ pre).length + 1 ≤ 2 ^ 45 := by simp; omega
        have hev := keycode_put.body_ev s (xs ++ pre) x
        rw [Nat.mul_one, decide_eq_true hle] at hev
        refine region_in (E := keycode_put.E0) (ds := []) (fun _ => trivial) keycode_put.body_plain hev hRb ?_
        intro st' lg a' W' S' ρ' H' hK hR' hd hM
        simp only [Option.map_eq_some_iff] at hK
        obtain ⟨r, hr, he⟩ := hK
        obtain ⟨ρ'', H'', hm3, _⟩ := packN_rep hr (st2 := st') (fun _ _ => rfl) hR'.mem hρ2 (vals := []) trivial
        rw [he] at hm3
        have hsame : ∀ b, S1 b → W'.heap[b]? = W.heap[b]? := by
          intro b hb
          have := hm3.same b (by rw [hX2]; exact hm.old b hb) (by
            rw [hX2]
            rintro ⟨n, B, h1, h2⟩
            exact hm.apart n B b h1 h2 hb)
          rw [this, hX2]; rfl
        have hm4 : Mem X2 W' (fun b => S' b ∧ (S b ∨ ∃ (vs : Array Value) (e : TypeId) (fr : Nat × Nat), W'.heap[b]? = some (Obj.cells vs e fr))) ρ'' H'' (keycode_put.blkOf s (xs ++ (pre ++ [x]))) := by
          rw [← List.append_assoc]
          refine hm3.shrink (fun b hb => ?_) (fun b hb => hb.1) (fun n B h => ⟨B, h⟩) (fun n h => h) ?_ ?_
          · have hb1 : S1 b := by rw [hX2] at hb; exact hb
            refine ⟨hm3.s0 b hb, ?_⟩
            rcases hc b hb1 with h4 | ⟨vs, e', fr, h4⟩
            · exact .inl h4
            · exact .inr ⟨vs, e', fr, (hsame b hb1).trans h4⟩
          · intro n B hB
            have := hm3.rep n B hB
            match n with
            | 0 =>
              simp [keycode_put.blkOf] at hB; subst hB
              obtain ⟨b, vs, e, h1, h2, h3, h4⟩ := this
              obtain ⟨v, m, hv, hr, hn⟩ := All2.cons_left h4
              refine ⟨b, vs, e, h1, h2, h3, ?_⟩
              rw [hv, hn.nil_left]
              exact ⟨hr, trivial⟩
            | 1 =>
              simp [keycode_put.blkOf] at hB; subst hB
              obtain ⟨b, vs, e, h1, h2, h3, h4⟩ := this
              obtain ⟨v, m, hv, hr, hn⟩ := All2.cons_left h4
              refine ⟨b, vs, e, h1, h2, h3, ?_⟩
              rw [hv, hn.nil_left]
              exact ⟨hr, trivial⟩
            | 2 =>
              simp [keycode_put.blkOf] at hB; subst hB
              obtain ⟨v, h1, ⟨b, h2, h3⟩ | ⟨h2, h3, h4, h5⟩⟩ := this
              · exact ⟨v, h1, .inl ⟨b, h2, h3⟩⟩
              · refine ⟨v, h1, .inr ⟨h2, h3, ?_, h5⟩⟩
                obtain ⟨base, len, cap, q1, q2, q3, q4, q5, q6⟩ := h4
                refine ⟨base, len, cap, q1, q2, q3, q4, q5, fun hx => ?_⟩
                obtain ⟨p, hp, hSp, hrow⟩ := q6 hx
                refine ⟨p, hp, ⟨hSp, .inr ?_⟩, hrow⟩
                obtain ⟨us, ⟨c, e, fr, hh, _⟩, _⟩ := hrow 0 (List.length_pos_iff.2 hx)
                exact ⟨c, e, fr, hh⟩
            | n + 3 => simp [keycode_put.blkOf] at hB
          · exact fun p hp => ⟨⟨(hm3.gl p hp).1, .inl (hR.mem.gl p hp).1⟩, (hm3.gl p hp).2⟩
        have hcells : ∀ n B b, keycode_put.blkOf s (xs ++ pre) n = some (some B) → H1 n = some b → ∃ (vs : Array Value) (e : TypeId), W.heap[b]? = some (Obj.cells vs e (0, 0)) := by
          intro n B b h1 h2
          have := hm.rep n B h1
          rw [h2] at this
          exact this.cells (hmpB _ n B h1)
        show KeepsOthers W W' ∧ KC b1 W W' ∧ _
        refine ⟨⟨?_, fun k o hk ho => ?_⟩, ?_, fun b => S' b ∧ (S b ∨ ∃ (vs : Array Value) (e : TypeId) (fr : Nat × Nat), W'.heap[b]? = some (Obj.cells vs e fr)), ρ'', H'', ?_, fun b hb => hb.2⟩
        · have := hm4.size; rw [hX2] at this; exact this
        · have := hm4.same k (by rw [hX2]; exact (Array.getElem?_eq_some_iff.1 hk).1) (by
            rw [hX2]
            rintro ⟨n, B, h1, h2⟩
            obtain ⟨vs, e, h3⟩ := hcells n B k h1 h2
            rw [h3] at hk; cases hk; simp [Obj.isCells] at ho)
          rw [this, hX2]; exact hk
        · exact (hcell hm4 rfl (hm4.names 1 _ (by rw [hX2]; simp [Mem.cx, hn1]))).trans (hcell hm rfl hn1).symm
        · rw [hX2] at hm4; exact hm.chain hm4
      case done =>
        rintro D ys W hD rfl ⟨S1, ρ1, H1, hm, hc⟩ hK
        obtain ⟨hn0, hn1⟩ := hnames hm
        have hsz : 49 ≤ a.tmps.size := hR.size
        have hmX : Mem X W S1 ρ1 H1 (keycode_put.blkOf s (xs ++ (escTo s s.size ++ [0, 0]))) := hmem.chain (hX1 ▸ hm)
        obtain ⟨X2, hX2⟩ : ∃ X2, X2 = Mem.cx X W S1 ρ1 H1 (keycode_put.blkOf s (xs ++ (escTo s s.size ++ [0, 0]))) 0 := ⟨_, rfl⟩
        have hm2 : Mem X2 W S1 ρ1 H1 (keycode_put.blkOf s (xs ++ (escTo s s.size ++ [0, 0]))) := hX2 ▸ hmX.restart 0
        have hρ2 : ∀ n v, X2.ρ0 n = some v → n < 0 := by
          intro n v hn
          rw [hX2] at hn
          simp [Mem.cx, hX0] at hn
        have hcells : ∀ n B b, keycode_put.blkOf s (xs ++ (escTo s s.size ++ [0, 0])) n = some (some B) → H1 n = some b → ∃ (vs : Array Value) (e : TypeId), W.heap[b]? = some (Obj.cells vs e (0, 0)) := by
          intro n B b h1 h2
          have := hm.rep n B h1
          rw [h2] at this
          exact this.cells (hmpB _ n B h1)
        have hDlt : D < W.heap.size := (Array.getElem?_eq_some_iff.1 hK).1
        have hnM : ¬ X2.M0 D := by
          rw [hX2]
          rintro ⟨n, B, h1, h2⟩
          obtain ⟨vs, e, h3⟩ := hcells n B D h1 h2
          rw [h3] at hK; cases hK
        have hnS1 : ¬ S1 D := by
          intro hS
          rcases hc D hS with h4 | ⟨vs, e, fr, h4⟩
          · have := hmem.old D h4; omega
          · rw [h4] at hK; cases hK
        show Code.wp _ (Code.seq _ Code.ret) _ _ _
        refine (wpIn_wide (n := 5)).1 (wpIn_seq ?_)
        have hRd : Rep X2 W S1 ρ1 H1 keycode_put.E0.N (stOf [2] [.v (.one (.ptr 0 0))] [some (.box [.own 2]), some (.box [.d .str s]), some (.own (.int .u8) false (xs ++ (escTo s s.size ++ [0, 0])))]) { a with defers := [] } := by
          refine { mem := hm2, tmp := ?_, size := by simpa [keycode_put.E0] using hsz, defers := rfl }
          intro t v ht
          obtain ⟨i, h1, h2⟩ := stOf_tmp ht
          match i with
          | 0 =>
            simp at h1 h2; subst h1; subst h2
            exact ⟨b0, hn0, ht2⟩
          | i + 1 => simp at h1
        refine region_in (E := keycode_put.E0) (ds := []) (fun _ => trivial) keycode_put.end_plain (keycode_put.end_ev s _) hRd ?_
        intro st' lg a' W' S' ρ' H' hK2 hR' hd hM
        simp only [Option.map_eq_some_iff] at hK2
        obtain ⟨r, hr, he⟩ := hK2
        obtain ⟨tv, lg1, h1, h2⟩ := run_bind_some hr
        have hv4 : RepTV W' S' ρ' tv (a'.tmps.getD 4 undef) := hR'.tmp _ _ (run_rT h1)
        obtain ⟨ρ'', H'', hm3, hv3⟩ := packN_rep h2 (st2 := st') (fun _ _ => rfl) hR'.mem hρ2 (tvs := [tv]) (vals := [a'.tmps.getD 4 undef]) ⟨hv4, trivial⟩
        rw [he] at hm3 hv3
        have hKD : W'.heap[D]? = some (.deferred (some [])) := by
          rw [hm3.same D (by rw [hX2]; exact hDlt) hnM, hX2]; exact hK
        have hnS' : ¬ S' D := by
          intro hS
          rcases hm3.smine D hS with h4 | h4 | h4
          · rw [hX2] at h4; exact hnS1 h4
          · exact hnM h4
          · rw [hX2] at h4
            exact absurd h4 (Nat.not_le.2 hDlt)
        have hmf : Mem X W' S' ρ'' H'' (fun n => [some (Blk.own (Ty.int IntKind.u8) false (xs ++ (escTo s s.size ++ [0, 0])))][n]?) := by
          rw [hX2] at hm3; exact hmX.chain hm3
        refine wpIn_ret ?_
        show LeavesInM Fence.wide 5 _ _ a'.tmps _ a'.defers .returning W'
        rw [hd, hR.defers]
        refine ⟨by simp, .inl ⟨D, _, rfl, run_takeDeferred hKD, ?_⟩⟩
        refine ⟨a'.tmps.getD 4 undef, results_tmp rfl _ _ _, _, S', ρ'', H'', rfl, hmf.turned (grownBy_putObj' W' D _) (fun n B hB => by
          match n with
          | 0 => simp at hB; subst hB; rfl
          | n + 1 => simp at hB) (fun r e => by cases e; exact hnS') (fun r e => by cases e; exact ⟨Nat.le_trans hmem.size hD, _, hKD, rfl⟩), hv3.1⟩
    · rw [decide_eq_false hlen] at h; simp at h
  · simp at h
theorem keycode_put.is {g60 : keycode_put8.G} {g61 : reals_Key.G} {g62 : keycode_escaped.G} {s0 : keycode_put.S0} : FnIs (keycode_put.env g60 g61 g62 s0) 43 Go.Proofs.Tryz.f43 := ⟨Go.Proofs.Tryz.func43, rfl, rfl, rfl, by decide⟩
theorem keycode_put.envok {g60 : keycode_put8.G} {g61 : reals_Key.G} {g62 : keycode_escaped.G} {s0 : keycode_put.S0} (h60 : CtOK Go.Proofs.Tryz.prog 60 (keycode_put8.ct g60)) (h61 : CtOK Go.Proofs.Tryz.prog 61 (reals_Key.ct g61)) (h62 : CtOK Go.Proofs.Tryz.prog 62 (keycode_escaped.ct g62)) : EnvOK (keycode_put.env g60 g61 g62 s0).toEnv := by
  intro f c h
  simp only [keycode_put.env] at h
  split at h
  · rename_i e; subst e; cases h; exact h60
  split at h
  · rename_i e; subst e; cases h; exact h61
  split at h
  · rename_i e; subst e; cases h; exact h62
  simp at h
noncomputable abbrev keycode_put.E (k : Nat) : FEnv := keycode_put.env (keycode_put8.f k) (reals_Key.f k) (keycode_escaped.f k) (keycode_put.s0 k)
theorem keycode_put.hE (k : Nat) : EnvOK (keycode_put.E k).toEnv := keycode_put.envok (keycode_put8.ok k) (reals_Key.ok k) (keycode_escaped.ok k)
theorem keycode_put.segs_ok : ∀ k, ∀ s ∈ (keycode_put.E k).segs, SegOK (keycode_put.E k) Go.Proofs.Tryz.f43 s
  | 0 => by
    intro s hs
    simp only [keycode_put.E, keycode_put.env, List.mem_cons, List.not_mem_nil, or_false] at hs
    rcases hs with rfl
    · exact keycode_put.s0_hand _ _ _ _  _
  | k + 1 => by
    intro s hs
    simp only [keycode_put.E, keycode_put.env, List.mem_cons, List.not_mem_nil, or_false] at hs
    rcases hs with rfl
    · exact keycode_put.s0_hand _ _ _ _  _
theorem keycode_put.ok (k : Nat) : CtOK Go.Proofs.Tryz.prog 43 (keycode_put.ct (keycode_put.f k)) := by
  refine ct_of_ev (E := keycode_put.E k) keycode_put.is (keycode_put.hE k) (keycode_put.segs_ok k) rfl ?_
  intro tvs blks res h
  simp only [keycode_put.ct] at h
  split at h
  · exact (keycode_put.ev.trans keycode_put.c_bind).trans h
  · exact (keycode_put.ev_nil.trans keycode_put.c_bind).trans h
  · simp at h

namespace keycode_Row
abbrev G : Type := (List D_api_Value) → Option (ByteArray × Int)
def ct (g : G) : Ct where
  nin := 0
  mv := []
  F := fun tvs blks {β} K => match tvs, blks with
    | [.v (.one (.d (.sl (.pair (.int .i64) (.pair (.int .i64) (.pair (.int .u64) (.pair .str .unit))))) a0))], [] => (g a0).bind fun r => K ⟨.tup [(.one (.d .str r.1)), (.one (.d (.int .i64) r.2))], []⟩
    | _, _ => none
  legit := fun _ _ K _ h => by split at h; exact (legit1 K h :); simp at h
abbrev S0 : Type := (List D_api_Value) → Int → Int → (List Int) → Option (ByteArray × Int)
def sg0 (g : S0) : Seg where
  path := [4, 1, 0, 1, 1]
  prep := [.own 4 (.int .u8)]
  keep := [4, 8, 9, 10]
  F := fun tvs blks {β} K => match tvs, blks with
    | [.v (.one (.own 0)), .v (.one (.d (.sl (.pair (.int .i64) (.pair (.int .i64) (.pair (.int .u64) (.pair .str .unit))))) x0)), .v (.one (.d (.int .i64) x1)), .v (.one (.d (.int .i64) x2))], [some (.own (.int .u8) false x3)] => (g x0 x1 x2 x3).bind fun r => K ⟨.tup [(.one (.d .str r.1)), (.one (.d (.int .i64) r.2))], []⟩
    | _, _ => none
  legit := fun _ _ K _ h => by split at h; exact (legit1 K h :); simp at h
noncomputable def env (g42 : values_Check.G) (g43 : keycode_put.G) (s0 : S0) : FEnv := { P := prog, ct := fun m => if m = 42 then some (values_Check.ct g42) else if m = 43 then some (keycode_put.ct g43) else none, N := 25, body := f31.body.getD .skip, rvs := [.tmp 2, .tmp 3], rts := [9, 32], nin := 0, rmv := [], segs := [sg0 s0] }
def c {β : Type} (g42 : values_Check.G) (g43 : keycode_put.G) (s0 : S0) (a0 : List D_api_Value) (ret : (ByteArray × Int) → Option β) : Option β := ((s0 a0 ((List.length a0) : Int) (0 : Int) []).bind ret)
def s0c {β : Type} (g42 : values_Check.G) (g43 : keycode_put.G) (s0 : S0) (x0 : List D_api_Value) (x1 : Int) (x2 : Int) (x3 : List Int) (ret : (ByteArray × Int) → Option β) : Option β := (bif (decide (x2 < x1)) then (bif ((decide ((0 : Int) ≤ x2)) && (decide (x2 < ((List.length x0) : Int)))) then ((g42 (elem T_api_Value x0 x2).1 (elem T_api_Value x0 x2).2.1 (elem T_api_Value x0 x2).2.2.1 (elem T_api_Value x0 x2).2.2.2.1).bind fun r0 => (bif (r0 != (0 : Int)) then (ret ((ByteArray.mk (List.toArray [])), r0)) else ((g43 (elem T_api_Value x0 x2).1 (elem T_api_Value x0 x2).2.1 (elem T_api_Value x0 x2).2.2.1 (elem T_api_Value x0 x2).2.2.2.1 x3).bind fun r1 => ((s0 x0 x1 (IntKind.wrap IntKind.i64 (x2 + (1 : Int))) r1).bind ret)))) else none) else (ret ((ByteArray.mk (List.toArray (List.map (fun n => (UInt8.ofNat (Int.toNat n))) x3))), (0 : Int))))
theorem c_bind {β : Type} {g42 : values_Check.G} {g43 : keycode_put.G} {s0 : S0} {a0 : List D_api_Value} {ret : (ByteArray × Int) → Option β} : c g42 g43 s0 a0 ret = (c g42 g43 s0 a0 some).bind ret := by
  simp only [c, bif_bind, sum_bind, oa, os, on, ofs]
theorem s0c_bind {β : Type} {g42 : values_Check.G} {g43 : keycode_put.G} {s0 : S0} {x0 : List D_api_Value} {x1 : Int} {x2 : Int} {x3 : List Int} {ret : (ByteArray × Int) → Option β} : s0c g42 g43 s0 x0 x1 x2 x3 ret = (s0c g42 g43 s0 x0 x1 x2 x3 some).bind ret := by
  simp only [s0c, bif_bind, sum_bind, oa, os, on, ofs]
theorem ev {g42 : values_Check.G} {g43 : keycode_put.G} {s0 : S0} {a0 : List D_api_Value} : evAt (env g42 g43 s0) [] [0] [.v (.one (.d (.sl T_api_Value) a0))] [] some = c g42 g43 s0 a0 (fun r => some ⟨.tup [(.one (.d .str r.1)), (.one (.d (.int .i64) r.2))], []⟩) := by
  kernel_rfl
theorem s0_ev {g42 : values_Check.G} {g43 : keycode_put.G} {s0 : S0} {x0 : List D_api_Value} {x1 : Int} {x2 : Int} {x3 : List Int} : evAt (env g42 g43 s0) [4, 1, 0, 1, 1] [4, 8, 9, 10] [.v (.one (.own 0)), .v (.one (.d (.sl T_api_Value) x0)), .v (.one (.d (.int .i64) x1)), .v (.one (.d (.int .i64) x2))] [some (.own (.int .u8) false x3)] some = s0c g42 g43 s0 x0 x1 x2 x3 (fun r => some ⟨.tup [(.one (.d .str r.1)), (.one (.d (.int .i64) r.2))], []⟩) := by
  kernel_rfl
def s0 : Nat → (List D_api_Value) → Int → Int → (List Int) → Option (ByteArray × Int)
  | 0, _, _, _, _ => none
  | k + 1, x0, x1, x2, x3 => s0c (values_Check.f k) (keycode_put.f k) (s0 k) x0 x1 x2 x3 some
def f (k : Nat) (a0 : List D_api_Value) : Option (ByteArray × Int) := c (values_Check.f k) (keycode_put.f k) (s0 k) a0 some
theorem is {g42 : values_Check.G} {g43 : keycode_put.G} {s0 : S0} : FnIs (env g42 g43 s0) 31 f31 := ⟨func31, rfl, rfl, rfl, by decide⟩
theorem envok {g42 : values_Check.G} {g43 : keycode_put.G} {s0 : S0} (h42 : CtOK prog 42 (values_Check.ct g42)) (h43 : CtOK prog 43 (keycode_put.ct g43)) : EnvOK (env g42 g43 s0).toEnv := by
  intro f c h
  simp only [env] at h
  split at h
  · rename_i e; subst e; cases h; exact h42
  split at h
  · rename_i e; subst e; cases h; exact h43
  simp at h
noncomputable abbrev E (k : Nat) : FEnv := env (values_Check.f k) (keycode_put.f k) (s0 k)
theorem hE (k : Nat) : EnvOK (E k).toEnv := envok (values_Check.ok k) (keycode_put.ok k)
theorem segs_ok : ∀ k, ∀ s ∈ (E k).segs, SegOK (E k) f31 s
  | 0 => by
    intro s hs
    simp only [E, env, List.mem_cons, List.not_mem_nil, or_false] at hs
    rcases hs with rfl
    · intro tvs blks res h; exfalso; simp only [sg0] at h; split at h <;> simp [s0] at h
  | k + 1 => by
    intro s hs
    simp only [E, env, List.mem_cons, List.not_mem_nil, or_false] at hs
    rcases hs with rfl
    · refine seg_of_ev (E := E k) (hE k) ⟨is.rvs⟩ (segs_ok k) ?_
      intro tvs blks res h
      simp only [sg0] at h
      split at h
      · exact (s0_ev.trans s0c_bind).trans h
      · simp at h
theorem ok (k : Nat) : CtOK prog 31 (ct (f k)) := by
  refine ct_of_ev (E := E k) is (hE k) (segs_ok k) rfl ?_
  intro tvs blks res h
  simp only [ct] at h
  split at h
  · exact (ev.trans c_bind).trans h
  · simp at h
end keycode_Row
namespace schema_Key
abbrev G : Type := ByteArray → Int → (List D_api_Col) → (List D_api_Value) → Option (ByteArray × Int)
def ct (g : G) : Ct where
  nin := 0
  mv := []
  F := fun tvs blks {β} K => match tvs, blks with
    | [.v (.agg [(.d .str a0), (.d (.int .i64) a1), (.d (.sl (.pair .str (.pair (.int .i64) (.pair .bool (.pair (.pair (.int .i64) (.pair (.int .i64) (.pair (.int .u64) (.pair .str .unit)))) .unit))))) a2)]), .v (.one (.d (.sl (.pair (.int .i64) (.pair (.int .i64) (.pair (.int .u64) (.pair .str .unit))))) a3))], [] => (g a0 a1 a2 a3).bind fun r => K ⟨.tup [(.one (.d .str r.1)), (.one (.d (.int .i64) r.2))], []⟩
    | _, _ => none
  legit := fun _ _ K _ h => by split at h; exact (legit1 K h :); simp at h
noncomputable def env (g30 : schema_Fits.G) (g31 : keycode_Row.G)  : FEnv := { P := prog, ct := fun m => if m = 30 then some (schema_Fits.ct g30) else if m = 31 then some (keycode_Row.ct g31) else none, N := 20, body := f22.body.getD .skip, rvs := [.tmp 4, .tmp 5], rts := [9, 32], nin := 0, rmv := [], segs := [] }
def c {β : Type} (g30 : schema_Fits.G) (g31 : keycode_Row.G)  (a0 : ByteArray) (a1 : Int) (a2 : List D_api_Col) (a3 : List D_api_Value) (ret : (ByteArray × Int) → Option β) : Option β := ((g30 a0 a1 a2 a3).bind fun r0 => (bif (r0 != (0 : Int)) then (ret ((ByteArray.mk (List.toArray [])), r0)) else (bif ((true && (decide ((0 : Int) ≤ a1))) && (decide (a1 ≤ ((List.length a3) : Int)))) then ((g31 (List.take ((Int.toNat a1) - (0 : Nat)) (List.drop (0 : Nat) a3))).bind fun r1 => (ret (r1.1, r1.2))) else none)))
theorem c_bind {β : Type} {g30 : schema_Fits.G} {g31 : keycode_Row.G}  {a0 : ByteArray} {a1 : Int} {a2 : List D_api_Col} {a3 : List D_api_Value} {ret : (ByteArray × Int) → Option β} : c g30 g31  a0 a1 a2 a3 ret = (c g30 g31  a0 a1 a2 a3 some).bind ret := by
  simp only [c, bif_bind, sum_bind, oa, os, on, ofs]
theorem ev {g30 : schema_Fits.G} {g31 : keycode_Row.G}  {a0 : ByteArray} {a1 : Int} {a2 : List D_api_Col} {a3 : List D_api_Value} : evAt (env g30 g31 ) [] [0, 1] [.v (.agg [(.d .str a0), (.d (.int .i64) a1), (.d (.sl T_api_Col) a2)]), .v (.one (.d (.sl T_api_Value) a3))] [] some = c g30 g31  a0 a1 a2 a3 (fun r => some ⟨.tup [(.one (.d .str r.1)), (.one (.d (.int .i64) r.2))], []⟩) := by
  kernel_rfl
def f (k : Nat) (a0 : ByteArray) (a1 : Int) (a2 : List D_api_Col) (a3 : List D_api_Value) : Option (ByteArray × Int) := c (schema_Fits.f k) (keycode_Row.f k)  a0 a1 a2 a3 some
theorem is {g30 : schema_Fits.G} {g31 : keycode_Row.G}  : FnIs (env g30 g31 ) 22 f22 := ⟨func22, rfl, rfl, rfl, by decide⟩
theorem envok {g30 : schema_Fits.G} {g31 : keycode_Row.G}  (h30 : CtOK prog 30 (schema_Fits.ct g30)) (h31 : CtOK prog 31 (keycode_Row.ct g31)) : EnvOK (env g30 g31 ).toEnv := by
  intro f c h
  simp only [env] at h
  split at h
  · rename_i e; subst e; cases h; exact h30
  split at h
  · rename_i e; subst e; cases h; exact h31
  simp at h
noncomputable abbrev E (k : Nat) : FEnv := env (schema_Fits.f k) (keycode_Row.f k) 
theorem hE (k : Nat) : EnvOK (E k).toEnv := envok (schema_Fits.ok k) (keycode_Row.ok k)
theorem ok (k : Nat) : CtOK prog 22 (ct (f k)) := by
  refine ct_of_ev (E := E k) is (hE k) (fun s hs => by simp [E, env] at hs) rfl ?_
  intro tvs blks res h
  simp only [ct] at h
  split at h
  · exact (ev.trans c_bind).trans h
  · simp at h
end schema_Key
/-! ### bytealg_abigen_runtime_cmpstring: function 63 (no body) -/
def bytealg_abigen_runtime_cmpstring.ct (g : ByteArray → ByteArray → Option Int) : Ct where
  nin := 0
  mv := []
  F := fun tvs blks {β} K => match tvs, blks with
    | [.v (.one (.d .str a0)), .v (.one (.d .str a1))], [] => (g a0 a1).bind fun r => K ⟨.v (.one (.d (.int .i64) r)), []⟩
    | _, _ => none
  legit := fun _ _ K _ h => by split at h; exact (legit1 K h :); simp at h
def bytealg_abigen_runtime_cmpstring.f (k : Nat) (a0 : ByteArray) (a1 : ByteArray) : Option Int := some (Lib.compareBytes a0.data.toList a1.data.toList)
theorem bytealg_abigen_runtime_cmpstring.ok (k : Nat) : CtOK Go.Proofs.Tryz.prog 63 (bytealg_abigen_runtime_cmpstring.ct (bytealg_abigen_runtime_cmpstring.f k)) := by
  refine ct_extern ?_
  intro tvs blks res h
  simp only [bytealg_abigen_runtime_cmpstring.ct] at h
  split at h
  · simp only [bytealg_abigen_runtime_cmpstring.f, Option.bind_some, Option.some.injEq] at h; subst h
    rename_i a0 a1
    refine ⟨.int .i64 (Lib.compareBytes a0.data.toList a1.data.toList), ?_, rfl, rfl⟩
    intro w S ρ H vals hm hv
    obtain ⟨v0, m0, rfl, h0, hv⟩ := All2.cons_left hv
    obtain ⟨v1, m1, rfl, h1, hv⟩ := All2.cons_left hv
    cases All2.nil_left hv
    simp only [RepTV, RepVV, RepAV, Rd, List.cons.injEq, and_true] at h0 h1
    subst h0; subst h1
    exact ⟨(run_callFunc_extern (e := Extern.BytealgCompare.compare) Go.Proofs.Tryz.func63 (by kernel_rfl) (by kernel_rfl) (by kernel_rfl) (by kernel_rfl) #[.string a0, .string a1] w).trans (by rw [Lib.run_compareString]; rfl), rfl⟩
  · simp at h
end Go.Proofs.YtdbbkmmillnaiaaGreatDoor.Aev
