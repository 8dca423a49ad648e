/- By a program of this session (AEV): functions of the program as plain functions, and that the machine does what they say. -/
import Derived.Test.YtddlebbjaadbeaaGreatDoorTys
import Derived.Test.YtddlebbjaadbeaaGreatDoorProg
import Derived.Laws.Externs
import Derived.Lib.Bytealg
import Derived.Test.YtddlebbjaadbeaaGreatDoorF10
import Derived.Test.YtddlebbjaadbeaaGreatDoorF12
namespace Go.Proofs.YtddlebbjaadbeaaGreatDoor.Aev
set_option linter.unusedVariables false
set_option linter.unusedSimpArgs false
set_option maxRecDepth 100000
set_option maxHeartbeats 4000000
open Go Go.Proofs.Tryz
namespace transomref03_Uint
abbrev G : Type := Int → Option ByteArray
def ct (g : G) : Ct where
  nin := 0
  mv := []
  F := fun tvs blks {β} K => match tvs, blks with
    | [.v (.one (.d (.int .u64) a0))], [] => (g a0).bind fun r => K ⟨.v (.one (.d .str r)), []⟩
    | _, _ => none
  legit := fun _ _ K _ h => by split at h; exact (legit1 K h :); simp at h
abbrev S0 : Type := Int → (List Int) → Option ByteArray
def sg0 (g : S0) : Seg where
  path := [4, 0, 1, 1]
  prep := [.own 3 (.int .u8)]
  keep := [0, 3]
  F := fun tvs blks {β} K => match tvs, blks with
    | [.v (.one (.d (.int .u64) x0)), .v (.one (.own 0))], [some (.own (.int .u8) false x1)] => (g x0 x1).bind fun r => K ⟨.v (.one (.d .str r)), []⟩
    | _, _ => none
  legit := fun _ _ K _ h => by split at h; exact (legit1 K h :); simp at h
noncomputable def env  (s0 : S0) : FEnv := { P := prog, ct := fun m => none, N := 22, body := f34.body.getD .skip, rvs := [.tmp 2], rts := [9], nin := 0, rmv := [], segs := [sg0 s0] }
def c {β : Type}  (s0 : S0) (a0 : Int) (ret : ByteArray → Option β) : Option β := ((s0 a0 []).bind ret)
def s0c {β : Type}  (s0 : S0) (x0 : Int) (x1 : List Int) (ret : ByteArray → Option β) : Option β := (bif (decide (x0 ≥ (128 : Int))) then (bif (decide ((((List.length x1) + (1 : Nat)) * (1 : Nat)) ≤ (35184372088832 : Nat))) then ((s0 (IntKind.wrap IntKind.u64 (Int.tdiv x0 (128 : Int))) (x1 ++ [(IntKind.wrap IntKind.u8 (IntKind.wrap IntKind.u64 ((Int.tmod x0 (128 : Int)) + (128 : Int))))])).bind ret) else none) else (bif (decide ((((List.length x1) + (1 : Nat)) * (1 : Nat)) ≤ (35184372088832 : Nat))) then (ret ((ByteArray.mk (List.toArray (List.map (fun n => (UInt8.ofNat (Int.toNat n))) (x1 ++ [(IntKind.wrap IntKind.u8 x0)])))))) else none))
theorem c_bind {β : Type}  {s0 : S0} {a0 : Int} {ret : ByteArray → Option β} : c  s0 a0 ret = (c  s0 a0 some).bind ret := by
  simp only [c, bif_bind, sum_bind, oa, os, on, ofs]
theorem s0c_bind {β : Type}  {s0 : S0} {x0 : Int} {x1 : List Int} {ret : ByteArray → Option β} : s0c  s0 x0 x1 ret = (s0c  s0 x0 x1 some).bind ret := by
  simp only [s0c, bif_bind, sum_bind, oa, os, on, ofs]
theorem ev  {s0 : S0} {a0 : Int} : evAt (env  s0) [] [0] [.v (.one (.d (.int .u64) a0))] [] some = c  s0 a0 (fun r => some ⟨.v (.one (.d .str r)), []⟩) := by
  kernel_rfl
theorem s0_ev  {s0 : S0} {x0 : Int} {x1 : List Int} : evAt (env  s0) [4, 0, 1, 1] [0, 3] [.v (.one (.d (.int .u64) x0)), .v (.one (.own 0))] [some (.own (.int .u8) false x1)] some = s0c  s0 x0 x1 (fun r => some ⟨.v (.one (.d .str r)), []⟩) := by
  kernel_rfl
def s0 : Nat → Int → (List Int) → Option ByteArray
  | 0, _, _ => none
  | k + 1, x0, x1 => s0c  (s0 k) x0 x1 some
def f (k : Nat) (a0 : Int) : Option ByteArray := c  (s0 k) a0 some
theorem is  {s0 : S0} : FnIs (env  s0) 34 f34 := ⟨func34, rfl, rfl, rfl, by decide⟩
theorem envok  {s0 : S0}  : EnvOK (env  s0).toEnv := by
  intro f c h
  simp only [env] at h
  simp at h
noncomputable abbrev E (k : Nat) : FEnv := env  (s0 k)
theorem hE (k : Nat) : EnvOK (E k).toEnv := envok 
theorem segs_ok : ∀ k, ∀ s ∈ (E k).segs, SegOK (E k) f34 s
  | 0 => by
    intro s hs
    simp only [E, env, List.mem_cons, List.not_mem_nil, or_false] at hs
    rcases hs with rfl
    · intro tvs blks res h; exfalso; simp only [sg0] at h; split at h <;> simp [s0] at h
  | k + 1 => by
    intro s hs
    simp only [E, env, List.mem_cons, List.not_mem_nil, or_false] at hs
    rcases hs with rfl
    · refine seg_of_ev (E := E k) (hE k) ⟨is.rvs⟩ (segs_ok k) ?_
      intro tvs blks res h
      simp only [sg0] at h
      split at h
      · exact (s0_ev.trans s0c_bind).trans h
      · simp at h
theorem ok (k : Nat) : CtOK prog 34 (ct (f k)) := by
  refine ct_of_ev (E := E k) is (hE k) (segs_ok k) rfl ?_
  intro tvs blks res h
  simp only [ct] at h
  split at h
  · exact (ev.trans c_bind).trans h
  · simp at h
end transomref03_Uint
namespace transomref03_Text
abbrev G : Type := ByteArray → Option ByteArray
def ct (g : G) : Ct where
  nin := 0
  mv := []
  F := fun tvs blks {β} K => match tvs, blks with
    | [.v (.one (.d .str a0))], [] => (g a0).bind fun r => K ⟨.v (.one (.d .str r)), []⟩
    | _, _ => none
  legit := fun _ _ K _ h => by split at h; exact (legit1 K h :); simp at h
noncomputable def env (g34 : transomref03_Uint.G)  : FEnv := { P := prog, ct := fun m => if m = 34 then some (transomref03_Uint.ct g34) else none, N := 9, body := f33.body.getD .skip, rvs := [.tmp 2], rts := [9], nin := 0, rmv := [], segs := [] }
def c {β : Type} (g34 : transomref03_Uint.G)  (a0 : ByteArray) (ret : ByteArray → Option β) : Option β := ((g34 (IntKind.wrap IntKind.u64 ((ByteArray.size a0) : Int))).bind fun r0 => (bif ((decide ((ByteArray.size r0) ≤ (4611686018427387903 : Nat))) && (decide ((ByteArray.size a0) ≤ (4611686018427387903 : Nat)))) then (ret ((r0 ++ a0))) else none))
theorem c_bind {β : Type} {g34 : transomref03_Uint.G}  {a0 : ByteArray} {ret : ByteArray → Option β} : c g34  a0 ret = (c g34  a0 some).bind ret := by
  simp only [c, bif_bind, sum_bind, oa, os, on, ofs]
theorem ev {g34 : transomref03_Uint.G}  {a0 : ByteArray} : evAt (env g34 ) [] [0] [.v (.one (.d .str a0))] [] some = c g34  a0 (fun r => some ⟨.v (.one (.d .str r)), []⟩) := by
  kernel_rfl
def f (k : Nat) (a0 : ByteArray) : Option ByteArray := c (transomref03_Uint.f k)  a0 some
theorem is {g34 : transomref03_Uint.G}  : FnIs (env g34 ) 33 f33 := ⟨func33, rfl, rfl, rfl, by decide⟩
theorem envok {g34 : transomref03_Uint.G}  (h34 : CtOK prog 34 (transomref03_Uint.ct g34)) : EnvOK (env g34 ).toEnv := by
  intro f c h
  simp only [env] at h
  split at h
  · rename_i e; subst e; cases h; exact h34
  simp at h
noncomputable abbrev E (k : Nat) : FEnv := env (transomref03_Uint.f k) 
theorem hE (k : Nat) : EnvOK (E k).toEnv := envok (transomref03_Uint.ok k)
theorem ok (k : Nat) : CtOK prog 33 (ct (f k)) := by
  refine ct_of_ev (E := E k) is (hE k) (fun s hs => by simp [E, env] at hs) rfl ?_
  intro tvs blks res h
  simp only [ct] at h
  split at h
  · exact (ev.trans c_bind).trans h
  · simp at h
end transomref03_Text
namespace transomref05_Eight
abbrev G : Type := Int → Option ByteArray
def ct (g : G) : Ct where
  nin := 0
  mv := []
  F := fun tvs blks {β} K => match tvs, blks with
    | [.v (.one (.d (.int .u64) a0))], [] => (g a0).bind fun r => K ⟨.v (.one (.d .str r)), []⟩
    | _, _ => none
  legit := fun _ _ K _ h => by split at h; exact (legit1 K h :); simp at h
abbrev S0 : Type := Int → Int → (List Int) → Option ByteArray
def sg0 (g : S0) : Seg where
  path := [4, 1, 0, 1, 1]
  prep := [.own 3 (.int .u8)]
  keep := [0, 3, 4]
  F := fun tvs blks {β} K => match tvs, blks with
    | [.v (.one (.d (.int .u64) x0)), .v (.one (.own 0)), .v (.one (.d (.int .i64) x1))], [some (.own (.int .u8) false x2)] => (g x0 x1 x2).bind fun r => K ⟨.v (.one (.d .str r)), []⟩
    | _, _ => none
  legit := fun _ _ K _ h => by split at h; exact (legit1 K h :); simp at h
noncomputable def env  (s0 : S0) : FEnv := { P := prog, ct := fun m => none, N := 21, body := f59.body.getD .skip, rvs := [.tmp 2], rts := [9], nin := 0, rmv := [], segs := [sg0 s0] }
def c {β : Type}  (s0 : S0) (a0 : Int) (ret : ByteArray → Option β) : Option β := ((s0 a0 (0 : Int) []).bind ret)
def s0c {β : Type}  (s0 : S0) (x0 : Int) (x1 : Int) (x2 : List Int) (ret : ByteArray → Option β) : Option β := (bif (decide (x1 < (8 : Int))) then (bif (decide ((0 : Int) ≤ (IntKind.wrap IntKind.u64 (IntKind.wrap IntKind.i64 ((56 : Int) - (IntKind.wrap IntKind.i64 ((8 : Int) * x1))))))) then (bif (decide ((((List.length x2) + (1 : Nat)) * (1 : Nat)) ≤ (35184372088832 : Nat))) then ((s0 x0 (IntKind.wrap IntKind.i64 (x1 + (1 : Int))) (x2 ++ [(IntKind.wrap IntKind.u8 (Int.fdiv x0 ((2 : Int) ^ (Min.min (Int.toNat (IntKind.wrap IntKind.u64 (IntKind.wrap IntKind.i64 ((56 : Int) - (IntKind.wrap IntKind.i64 ((8 : Int) * x1)))))) (64 : Nat)))))])).bind ret) else none) else none) else (ret ((ByteArray.mk (List.toArray (List.map (fun n => (UInt8.ofNat (Int.toNat n))) x2))))))
theorem c_bind {β : Type}  {s0 : S0} {a0 : Int} {ret : ByteArray → Option β} : c  s0 a0 ret = (c  s0 a0 some).bind ret := by
  simp only [c, bif_bind, sum_bind, oa, os, on, ofs]
theorem s0c_bind {β : Type}  {s0 : S0} {x0 : Int} {x1 : Int} {x2 : List Int} {ret : ByteArray → Option β} : s0c  s0 x0 x1 x2 ret = (s0c  s0 x0 x1 x2 some).bind ret := by
  simp only [s0c, bif_bind, sum_bind, oa, os, on, ofs]
theorem ev  {s0 : S0} {a0 : Int} : evAt (env  s0) [] [0] [.v (.one (.d (.int .u64) a0))] [] some = c  s0 a0 (fun r => some ⟨.v (.one (.d .str r)), []⟩) := by
  kernel_rfl
theorem s0_ev  {s0 : S0} {x0 : Int} {x1 : Int} {x2 : List Int} : evAt (env  s0) [4, 1, 0, 1, 1] [0, 3, 4] [.v (.one (.d (.int .u64) x0)), .v (.one (.own 0)), .v (.one (.d (.int .i64) x1))] [some (.own (.int .u8) false x2)] some = s0c  s0 x0 x1 x2 (fun r => some ⟨.v (.one (.d .str r)), []⟩) := by
  kernel_rfl
def s0 : Nat → Int → Int → (List Int) → Option ByteArray
  | 0, _, _, _ => none
  | k + 1, x0, x1, x2 => s0c  (s0 k) x0 x1 x2 some
def f (k : Nat) (a0 : Int) : Option ByteArray := c  (s0 k) a0 some
theorem is  {s0 : S0} : FnIs (env  s0) 59 f59 := ⟨func59, rfl, rfl, rfl, by decide⟩
theorem envok  {s0 : S0}  : EnvOK (env  s0).toEnv := by
  intro f c h
  simp only [env] at h
  simp at h
noncomputable abbrev E (k : Nat) : FEnv := env  (s0 k)
theorem hE (k : Nat) : EnvOK (E k).toEnv := envok 
theorem segs_ok : ∀ k, ∀ s ∈ (E k).segs, SegOK (E k) f59 s
  | 0 => by
    intro s hs
    simp only [E, env, List.mem_cons, List.not_mem_nil, or_false] at hs
    rcases hs with rfl
    · intro tvs blks res h; exfalso; simp only [sg0] at h; split at h <;> simp [s0] at h
  | k + 1 => by
    intro s hs
    simp only [E, env, List.mem_cons, List.not_mem_nil, or_false] at hs
    rcases hs with rfl
    · refine seg_of_ev (E := E k) (hE k) ⟨is.rvs⟩ (segs_ok k) ?_
      intro tvs blks res h
      simp only [sg0] at h
      split at h
      · exact (s0_ev.trans s0c_bind).trans h
      · simp at h
theorem ok (k : Nat) : CtOK prog 59 (ct (f k)) := by
  refine ct_of_ev (E := E k) is (hE k) (segs_ok k) rfl ?_
  intro tvs blks res h
  simp only [ct] at h
  split at h
  · exact (ev.trans c_bind).trans h
  · simp at h
end transomref05_Eight
namespace transomref02_Key
abbrev G : Type := Int → Option Int
def ct (g : G) : Ct where
  nin := 0
  mv := []
  F := fun tvs blks {β} K => match tvs, blks with
    | [.v (.one (.d (.int .u64) a0))], [] => (g a0).bind fun r => K ⟨.v (.one (.d (.int .u64) r)), []⟩
    | _, _ => none
  legit := fun _ _ K _ h => by split at h; exact (legit1 K h :); simp at h
noncomputable def env (g81 : transomref02_Canon.G)  : FEnv := { P := prog, ct := fun m => if m = 81 then some (transomref02_Canon.ct g81) else none, N := 12, body := f60.body.getD .skip, rvs := [.tmp 2], rts := [47], nin := 0, rmv := [], segs := [] }
def c {β : Type} (g81 : transomref02_Canon.G)  (a0 : Int) (ret : Int → Option β) : Option β := ((g81 a0).bind fun r0 => (bif ((Int.fdiv r0 (9223372036854775808 : Int)) == (0 : Int)) then (ret ((IntKind.wrap IntKind.u64 ((BitVec.toNat ((BitVec.ofInt (64 : Nat) r0) ||| (BitVec.ofInt (64 : Nat) (9223372036854775808 : Int)))) : Int)))) else (ret ((IntKind.wrap IntKind.u64 ((BitVec.toNat ((BitVec.ofInt (64 : Nat) (18446744073709551615 : Int)) ^^^ (BitVec.ofInt (64 : Nat) r0))) : Int))))))
theorem c_bind {β : Type} {g81 : transomref02_Canon.G}  {a0 : Int} {ret : Int → Option β} : c g81  a0 ret = (c g81  a0 some).bind ret := by
  simp only [c, bif_bind, sum_bind, oa, os, on, ofs]
theorem ev {g81 : transomref02_Canon.G}  {a0 : Int} : evAt (env g81 ) [] [0] [.v (.one (.d (.int .u64) a0))] [] some = c g81  a0 (fun r => some ⟨.v (.one (.d (.int .u64) r)), []⟩) := by
  kernel_rfl
def f (k : Nat) (a0 : Int) : Option Int := c (transomref02_Canon.f k)  a0 some
theorem is {g81 : transomref02_Canon.G}  : FnIs (env g81 ) 60 f60 := ⟨func60, rfl, rfl, rfl, by decide⟩
theorem envok {g81 : transomref02_Canon.G}  (h81 : CtOK prog 81 (transomref02_Canon.ct g81)) : EnvOK (env g81 ).toEnv := by
  intro f c h
  simp only [env] at h
  split at h
  · rename_i e; subst e; cases h; exact h81
  simp at h
noncomputable abbrev E (k : Nat) : FEnv := env (transomref02_Canon.f k) 
theorem hE (k : Nat) : EnvOK (E k).toEnv := envok (transomref02_Canon.ok k)
theorem ok (k : Nat) : CtOK prog 60 (ct (f k)) := by
  refine ct_of_ev (E := E k) is (hE k) (fun s hs => by simp [E, env] at hs) rfl ?_
  intro tvs blks res h
  simp only [ct] at h
  split at h
  · exact (ev.trans c_bind).trans h
  · simp at h
end transomref02_Key
namespace transomref05_escaped
abbrev G : Type := ByteArray → Option ByteArray
def ct (g : G) : Ct where
  nin := 0
  mv := []
  F := fun tvs blks {β} K => match tvs, blks with
    | [.v (.one (.d .str a0))], [] => (g a0).bind fun r => K ⟨.v (.one (.d .str r)), []⟩
    | _, _ => none
  legit := fun _ _ K _ h => by split at h; exact (legit1 K h :); simp at h
abbrev S0 : Type := ByteArray → Int → (List Int) → Option ByteArray
abbrev S1 : Type := ByteArray → Int → (List Int) → Option ByteArray
def sg0 (g : S0) : Seg where
  path := [4, 1, 0, 1, 1]
  prep := [.own 3 (.int .u8)]
  keep := [0, 3, 4]
  F := fun tvs blks {β} K => match tvs, blks with
    | [.v (.one (.d .str x0)), .v (.one (.own 0)), .v (.one (.d (.int .i64) x1))], [some (.own (.int .u8) false x2)] => (g x0 x1 x2).bind fun r => K ⟨.v (.one (.d .str r)), []⟩
    | _, _ => none
  legit := fun _ _ K _ h => by split at h; exact (legit1 K h :); simp at h
def sg1 (g : S1) : Seg where
  path := [1, 1, 5, 4, 1, 0, 1, 1]
  prep := []
  keep := [0, 3, 4]
  F := fun tvs blks {β} K => match tvs, blks with
    | [.v (.one (.d .str x0)), .v (.one (.own 0)), .v (.one (.d (.int .i64) x1))], [some (.own (.int .u8) false x2)] => (g x0 x1 x2).bind fun r => K ⟨.v (.one (.d .str r)), []⟩
    | _, _ => none
  legit := fun _ _ K _ h => by split at h; exact (legit1 K h :); simp at h
noncomputable def env  (s0 : S0) (s1 : S1) : FEnv := { P := prog, ct := fun m => none, N := 29, body := f61.body.getD .skip, rvs := [.tmp 2], rts := [9], nin := 0, rmv := [], segs := [sg0 s0, sg1 s1] }
def c {β : Type}  (s0 : S0) (s1 : S1) (a0 : ByteArray) (ret : ByteArray → Option β) : Option β := ((s0 a0 (0 : Int) []).bind ret)
def s0c {β : Type}  (s0 : S0) (s1 : S1) (x0 : ByteArray) (x1 : Int) (x2 : List Int) (ret : ByteArray → Option β) : Option β := (bif (decide (x1 < ((ByteArray.size x0) : Int))) then (bif ((decide ((0 : Int) ≤ x1)) && (decide (x1 < ((ByteArray.size x0) : Int)))) then (bif (decide ((((List.length x2) + (1 : Nat)) * (1 : Nat)) ≤ (35184372088832 : Nat))) then (bif ((decide ((0 : Int) ≤ x1)) && (decide (x1 < ((ByteArray.size x0) : Int)))) then (bif ((bt x0 x1) == (0 : Int)) then (bif (decide ((((List.length (x2 ++ [(bt x0 x1)])) + (1 : Nat)) * (1 : Nat)) ≤ (35184372088832 : Nat))) then ((s1 x0 x1 ((x2 ++ [(bt x0 x1)]) ++ [(255 : Int)])).bind ret) else none) else ((s1 x0 x1 (x2 ++ [(bt x0 x1)])).bind ret)) else none) else none) else none) else (bif (decide ((((List.length x2) + (2 : Nat)) * (1 : Nat)) ≤ (35184372088832 : Nat))) then (ret ((ByteArray.mk (List.toArray (List.map (fun n => (UInt8.ofNat (Int.toNat n))) (x2 ++ [(0 : Int), (0 : Int)])))))) else none))
def s1c {β : Type}  (s0 : S0) (s1 : S1) (x0 : ByteArray) (x1 : Int) (x2 : List Int) (ret : ByteArray → Option β) : Option β := ((s0 x0 (IntKind.wrap IntKind.i64 (x1 + (1 : Int))) x2).bind ret)
theorem c_bind {β : Type}  {s0 : S0} {s1 : S1} {a0 : ByteArray} {ret : ByteArray → Option β} : c  s0 s1 a0 ret = (c  s0 s1 a0 some).bind ret := by
  simp only [c, bif_bind, sum_bind, oa, os, on, ofs]
theorem s0c_bind {β : Type}  {s0 : S0} {s1 : S1} {x0 : ByteArray} {x1 : Int} {x2 : List Int} {ret : ByteArray → Option β} : s0c  s0 s1 x0 x1 x2 ret = (s0c  s0 s1 x0 x1 x2 some).bind ret := by
  simp only [s0c, bif_bind, sum_bind, oa, os, on, ofs]
theorem s1c_bind {β : Type}  {s0 : S0} {s1 : S1} {x0 : ByteArray} {x1 : Int} {x2 : List Int} {ret : ByteArray → Option β} : s1c  s0 s1 x0 x1 x2 ret = (s1c  s0 s1 x0 x1 x2 some).bind ret := by
  simp only [s1c, bif_bind, sum_bind, oa, os, on, ofs]
theorem ev  {s0 : S0} {s1 : S1} {a0 : ByteArray} : evAt (env  s0 s1) [] [0] [.v (.one (.d .str a0))] [] some = c  s0 s1 a0 (fun r => some ⟨.v (.one (.d .str r)), []⟩) := by
  kernel_rfl
theorem s0_ev  {s0 : S0} {s1 : S1} {x0 : ByteArray} {x1 : Int} {x2 : List Int} : evAt (env  s0 s1) [4, 1, 0, 1, 1] [0, 3, 4] [.v (.one (.d .str x0)), .v (.one (.own 0)), .v (.one (.d (.int .i64) x1))] [some (.own (.int .u8) false x2)] some = s0c  s0 s1 x0 x1 x2 (fun r => some ⟨.v (.one (.d .str r)), []⟩) := by
  kernel_rfl
theorem s1_ev  {s0 : S0} {s1 : S1} {x0 : ByteArray} {x1 : Int} {x2 : List Int} : evAt (env  s0 s1) [1, 1, 5, 4, 1, 0, 1, 1] [0, 3, 4] [.v (.one (.d .str x0)), .v (.one (.own 0)), .v (.one (.d (.int .i64) x1))] [some (.own (.int .u8) false x2)] some = s1c  s0 s1 x0 x1 x2 (fun r => some ⟨.v (.one (.d .str r)), []⟩) := by
  kernel_rfl
mutual
def s0 : Nat → ByteArray → Int → (List Int) → Option ByteArray
  | 0, _, _, _ => none
  | k + 1, x0, x1, x2 => s0c  (s0 k) (s1 k) x0 x1 x2 some
def s1 : Nat → ByteArray → Int → (List Int) → Option ByteArray
  | 0, _, _, _ => none
  | k + 1, x0, x1, x2 => s1c  (s0 k) (s1 k) x0 x1 x2 some
end
def f (k : Nat) (a0 : ByteArray) : Option ByteArray := c  (s0 k) (s1 k) a0 some
theorem is  {s0 : S0} {s1 : S1} : FnIs (env  s0 s1) 61 f61 := ⟨func61, rfl, rfl, rfl, by decide⟩
theorem envok  {s0 : S0} {s1 : S1}  : EnvOK (env  s0 s1).toEnv := by
  intro f c h
  simp only [env] at h
  simp at h
noncomputable abbrev E (k : Nat) : FEnv := env  (s0 k) (s1 k)
theorem hE (k : Nat) : EnvOK (E k).toEnv := envok 
theorem segs_ok : ∀ k, ∀ s ∈ (E k).segs, SegOK (E k) f61 s
  | 0 => by
    intro s hs
    simp only [E, env, List.mem_cons, List.not_mem_nil, or_false] at hs
    rcases hs with rfl | rfl
    · intro tvs blks res h; exfalso; simp only [sg0] at h; split at h <;> simp [s0] at h
    · intro tvs blks res h; exfalso; simp only [sg1] at h; split at h <;> simp [s1] at h
  | k + 1 => by
    intro s hs
    simp only [E, env, List.mem_cons, List.not_mem_nil, or_false] at hs
    rcases hs with rfl | rfl
    · refine seg_of_ev (E := E k) (hE k) ⟨is.rvs⟩ (segs_ok k) ?_
      intro tvs blks res h
      simp only [sg0] at h
      split at h
      · exact (s0_ev.trans s0c_bind).trans h
      · simp at h
    · refine seg_of_ev (E := E k) (hE k) ⟨is.rvs⟩ (segs_ok k) ?_
      intro tvs blks res h
      simp only [sg1] at h
      split at h
      · exact (s1_ev.trans s1c_bind).trans h
      · simp at h
theorem ok (k : Nat) : CtOK prog 61 (ct (f k)) := by
  refine ct_of_ev (E := E k) is (hE k) (segs_ok k) rfl ?_
  intro tvs blks res h
  simp only [ct] at h
  split at h
  · exact (ev.trans c_bind).trans h
  · simp at h
end transomref05_escaped
namespace transomref05_Put
abbrev G : Type := Int → Int → Int → ByteArray → Option (ByteArray × Int)
def ct (g : G) : Ct where
  nin := 0
  mv := []
  F := fun tvs blks {β} K => match tvs, blks with
    | [.v (.agg [(.d (.int .i64) a0), (.d (.int .i64) a1), (.d (.int .u64) a2), (.d .str a3)])], [] => (g a0 a1 a2 a3).bind fun r => K ⟨.tup [(.one (.d .str r.1)), (.one (.d (.int .i64) r.2))], []⟩
    | _, _ => none
  legit := fun _ _ K _ h => by split at h; exact (legit1 K h :); simp at h
noncomputable def env (g58 : transomref04_Check.G) (g59 : transomref05_Eight.G) (g60 : transomref02_Key.G) (g61 : transomref05_escaped.G)  : FEnv := { P := prog, ct := fun m => if m = 58 then some (transomref04_Check.ct g58) else if m = 59 then some (transomref05_Eight.ct g59) else if m = 60 then some (transomref02_Key.ct g60) else if m = 61 then some (transomref05_escaped.ct g61) else none, N := 53, body := f35.body.getD .skip, rvs := [.tmp 2, .tmp 3], rts := [9, 3], nin := 0, rmv := [], segs := [] }
def c {β : Type} (g58 : transomref04_Check.G) (g59 : transomref05_Eight.G) (g60 : transomref02_Key.G) (g61 : transomref05_escaped.G)  (a0 : Int) (a1 : Int) (a2 : Int) (a3 : ByteArray) (ret : (ByteArray × Int) → Option β) : Option β := ((g58 a0 a1 a2 a3).bind fun r0 => (bif (r0 != (0 : Int)) then (ret ((ByteArray.mk (List.toArray [])), r0)) else (bif (a0 == (1 : Int)) then (ret (((ByteArray.mk (List.toArray (List.map (fun n => (UInt8.ofNat (Int.toNat n))) [(IntKind.wrap IntKind.u8 a0)]))) ++ (ByteArray.mk (List.toArray (List.map (fun n => (UInt8.ofNat (Int.toNat n))) [(IntKind.wrap IntKind.u8 a1)])))), (0 : Int))) else (bif (a0 == (2 : Int)) then ((g59 (IntKind.wrap IntKind.u64 ((BitVec.toNat ((BitVec.ofInt (64 : Nat) (IntKind.wrap IntKind.u64 a1)) ^^^ (BitVec.ofInt (64 : Nat) (9223372036854775808 : Int)))) : Int))).bind fun r1 => (bif (true && (decide ((ByteArray.size r1) ≤ (4611686018427387903 : Nat)))) then (ret (((ByteArray.mk (List.toArray (List.map (fun n => (UInt8.ofNat (Int.toNat n))) [(IntKind.wrap IntKind.u8 a0)]))) ++ r1), (0 : Int))) else none)) else (bif (a0 == (3 : Int)) then ((g60 a2).bind fun r2 => ((g59 r2).bind fun r3 => (bif (true && (decide ((ByteArray.size r3) ≤ (4611686018427387903 : Nat)))) then (ret (((ByteArray.mk (List.toArray (List.map (fun n => (UInt8.ofNat (Int.toNat n))) [(IntKind.wrap IntKind.u8 a0)]))) ++ r3), (0 : Int))) else none))) else (bif (a0 == (4 : Int)) then (bif (a0 == (4 : Int)) then ((g61 a3).bind fun r4 => (bif (true && (decide ((ByteArray.size r4) ≤ (4611686018427387903 : Nat)))) then (ret (((ByteArray.mk (List.toArray (List.map (fun n => (UInt8.ofNat (Int.toNat n))) [(IntKind.wrap IntKind.u8 a0)]))) ++ r4), (0 : Int))) else none)) else (ret ((ByteArray.mk (List.toArray (List.map (fun n => (UInt8.ofNat (Int.toNat n))) [(IntKind.wrap IntKind.u8 a0)]))), (0 : Int)))) else (bif (a0 == (5 : Int)) then ((g61 a3).bind fun r5 => (bif (true && (decide ((ByteArray.size r5) ≤ (4611686018427387903 : Nat)))) then (ret (((ByteArray.mk (List.toArray (List.map (fun n => (UInt8.ofNat (Int.toNat n))) [(IntKind.wrap IntKind.u8 a0)]))) ++ r5), (0 : Int))) else none)) else (ret ((ByteArray.mk (List.toArray (List.map (fun n => (UInt8.ofNat (Int.toNat n))) [(IntKind.wrap IntKind.u8 a0)]))), (0 : Int))))))))))
theorem c_bind {β : Type} {g58 : transomref04_Check.G} {g59 : transomref05_Eight.G} {g60 : transomref02_Key.G} {g61 : transomref05_escaped.G}  {a0 : Int} {a1 : Int} {a2 : Int} {a3 : ByteArray} {ret : (ByteArray × Int) → Option β} : c g58 g59 g60 g61  a0 a1 a2 a3 ret = (c g58 g59 g60 g61  a0 a1 a2 a3 some).bind ret := by
  simp only [c, bif_bind, sum_bind, oa, os, on, ofs]
theorem ev {g58 : transomref04_Check.G} {g59 : transomref05_Eight.G} {g60 : transomref02_Key.G} {g61 : transomref05_escaped.G}  {a0 : Int} {a1 : Int} {a2 : Int} {a3 : ByteArray} : evAt (env g58 g59 g60 g61 ) [] [0] [.v (.agg [(.d (.int .i64) a0), (.d (.int .i64) a1), (.d (.int .u64) a2), (.d .str a3)])] [] some = c g58 g59 g60 g61  a0 a1 a2 a3 (fun r => some ⟨.tup [(.one (.d .str r.1)), (.one (.d (.int .i64) r.2))], []⟩) := by
  kernel_rfl
def f (k : Nat) (a0 : Int) (a1 : Int) (a2 : Int) (a3 : ByteArray) : Option (ByteArray × Int) := c (transomref04_Check.f k) (transomref05_Eight.f k) (transomref02_Key.f k) (transomref05_escaped.f k)  a0 a1 a2 a3 some
theorem is {g58 : transomref04_Check.G} {g59 : transomref05_Eight.G} {g60 : transomref02_Key.G} {g61 : transomref05_escaped.G}  : FnIs (env g58 g59 g60 g61 ) 35 f35 := ⟨func35, rfl, rfl, rfl, by decide⟩
theorem envok {g58 : transomref04_Check.G} {g59 : transomref05_Eight.G} {g60 : transomref02_Key.G} {g61 : transomref05_escaped.G}  (h58 : CtOK prog 58 (transomref04_Check.ct g58)) (h59 : CtOK prog 59 (transomref05_Eight.ct g59)) (h60 : CtOK prog 60 (transomref02_Key.ct g60)) (h61 : CtOK prog 61 (transomref05_escaped.ct g61)) : EnvOK (env g58 g59 g60 g61 ).toEnv := by
  intro f c h
  simp only [env] at h
  split at h
  · rename_i e; subst e; cases h; exact h58
  split at h
  · rename_i e; subst e; cases h; exact h59
  split at h
  · rename_i e; subst e; cases h; exact h60
  split at h
  · rename_i e; subst e; cases h; exact h61
  simp at h
noncomputable abbrev E (k : Nat) : FEnv := env (transomref04_Check.f k) (transomref05_Eight.f k) (transomref02_Key.f k) (transomref05_escaped.f k) 
theorem hE (k : Nat) : EnvOK (E k).toEnv := envok (transomref04_Check.ok k) (transomref05_Eight.ok k) (transomref02_Key.ok k) (transomref05_escaped.ok k)
theorem ok (k : Nat) : CtOK prog 35 (ct (f k)) := by
  refine ct_of_ev (E := E k) is (hE k) (fun s hs => by simp [E, env] at hs) rfl ?_
  intro tvs blks res h
  simp only [ct] at h
  split at h
  · exact (ev.trans c_bind).trans h
  · simp at h
end transomref05_Put
end Go.Proofs.YtddlebbjaadbeaaGreatDoor.Aev
