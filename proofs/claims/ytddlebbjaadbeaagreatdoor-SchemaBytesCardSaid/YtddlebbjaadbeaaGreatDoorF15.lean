/- By a program of this session (AEV): functions of the program as plain functions, and that the machine does what they say. -/
import Derived.Test.YtddlebbjaadbeaaGreatDoorTys
import Derived.Test.YtddlebbjaadbeaaGreatDoorProg
import Derived.Laws.Externs
import Derived.Lib.Bytealg
import Derived.Test.YtddlebbjaadbeaaGreatDoorF13
import Derived.Test.YtddlebbjaadbeaaGreatDoorF14
namespace Go.Proofs.YtddlebbjaadbeaaGreatDoor.Aev
set_option linter.unusedVariables false
set_option linter.unusedSimpArgs false
set_option maxRecDepth 100000
set_option maxHeartbeats 4000000
open Go Go.Proofs.Tryz
namespace transomref09_Put
abbrev G : Type := ByteArray → Int → (List D_api_Col) → Option (ByteArray × Int)
def ct (g : G) : Ct where
  nin := 0
  mv := []
  F := fun tvs blks {β} K => match tvs, blks with
    | [.v (.agg [(.d .str a0), (.d (.int .i64) a1), (.d (.sl (.pair .str (.pair (.int .i64) (.pair .bool (.pair (.pair (.int .i64) (.pair (.int .i64) (.pair (.int .u64) (.pair .str .unit)))) .unit))))) a2)])], [] => (g a0 a1 a2).bind fun r => K ⟨.tup [(.one (.d .str r.1)), (.one (.d (.int .i64) r.2))], []⟩
    | _, _ => none
  legit := fun _ _ K _ h => by split at h; exact (legit1 K h :); simp at h
abbrev S0 : Type := ByteArray → Int → ByteArray → Int → (List D_api_Col) → Option (ByteArray × Int)
abbrev S1 : Type := ByteArray → Int → Int → ByteArray → Int → (List D_api_Col) → ByteArray → Int → Bool → Int → Int → Int → ByteArray → Option (ByteArray × Int)
abbrev S2 : Type := ByteArray → Int → ByteArray → Int → (List D_api_Col) → Option (ByteArray × Int)
def sg0 (g : S0) : Seg where
  path := [4, 1, 0, 1, 1, 1]
  prep := []
  keep := [1, 5, 6]
  F := fun tvs blks {β} K => match tvs, blks with
    | [.v (.one (.ptr 0 0)), .v (.one (.d .str x0)), .v (.one (.d (.int .i64) x1))], [some (.box [(.d .str x2), (.d (.int .i64) x3), (.d (.sl (.pair .str (.pair (.int .i64) (.pair .bool (.pair (.pair (.int .i64) (.pair (.int .i64) (.pair (.int .u64) (.pair .str .unit)))) .unit))))) x4)])] => (g x0 x1 x2 x3 x4).bind fun r => K ⟨.tup [(.one (.d .str r.1)), (.one (.d (.int .i64) r.2))], []⟩
    | _, _ => none
  legit := fun _ _ K _ h => by split at h; exact (legit1 K h :); simp at h
def sg1 (g : S1) : Seg where
  path := [1, 1, 1, 4, 0, 1, 5, 4, 1, 0, 1, 1, 1]
  prep := []
  keep := [1, 5, 6, 7, 8]
  F := fun tvs blks {β} K => match tvs, blks with
    | [.v (.one (.ptr 0 0)), .v (.one (.d .str x0)), .v (.one (.d (.int .i64) x1)), .v (.one (.ptr 1 0)), .v (.one (.d (.int .u8) x2))], [some (.box [(.d .str x3), (.d (.int .i64) x4), (.d (.sl (.pair .str (.pair (.int .i64) (.pair .bool (.pair (.pair (.int .i64) (.pair (.int .i64) (.pair (.int .u64) (.pair .str .unit)))) .unit))))) x5)]), some (.box [(.d .str x6), (.d (.int .i64) x7), (.d .bool x8), (.d (.int .i64) x9), (.d (.int .i64) x10), (.d (.int .u64) x11), (.d .str x12)])] => (g x0 x1 x2 x3 x4 x5 x6 x7 x8 x9 x10 x11 x12).bind fun r => K ⟨.tup [(.one (.d .str r.1)), (.one (.d (.int .i64) r.2))], []⟩
    | _, _ => none
  legit := fun _ _ K _ h => by split at h; exact (legit1 K h :); simp at h
def sg2 (g : S2) : Seg where
  path := [1, 1, 5, 4, 1, 0, 1, 1, 1]
  prep := []
  keep := [1, 5, 6]
  F := fun tvs blks {β} K => match tvs, blks with
    | [.v (.one (.ptr 0 0)), .v (.one (.d .str x0)), .v (.one (.d (.int .i64) x1))], [some (.box [(.d .str x2), (.d (.int .i64) x3), (.d (.sl (.pair .str (.pair (.int .i64) (.pair .bool (.pair (.pair (.int .i64) (.pair (.int .i64) (.pair (.int .u64) (.pair .str .unit)))) .unit))))) x4)])] => (g x0 x1 x2 x3 x4).bind fun r => K ⟨.tup [(.one (.d .str r.1)), (.one (.d (.int .i64) r.2))], []⟩
    | _, _ => none
  legit := fun _ _ K _ h => by split at h; exact (legit1 K h :); simp at h
noncomputable def env (g28 : transomref09_Check.G) (g33 : transomref03_Text.G) (g34 : transomref03_Uint.G) (g35 : transomref05_Put.G) (s0 : S0) (s1 : S1) (s2 : S2) : FEnv := { P := prog, ct := fun m => if m = 28 then some (transomref09_Check.ct g28) else if m = 33 then some (transomref03_Text.ct g33) else if m = 34 then some (transomref03_Uint.ct g34) else if m = 35 then some (transomref05_Put.ct g35) else none, N := 67, body := f15.body.getD .skip, rvs := [.tmp 2, .tmp 3], rts := [9, 3], nin := 0, rmv := [], segs := [sg0 s0, sg1 s1, sg2 s2] }
def c {β : Type} (g28 : transomref09_Check.G) (g33 : transomref03_Text.G) (g34 : transomref03_Uint.G) (g35 : transomref05_Put.G) (s0 : S0) (s1 : S1) (s2 : S2) (a0 : ByteArray) (a1 : Int) (a2 : List D_api_Col) (ret : (ByteArray × Int) → Option β) : Option β := ((g28 a0 a1 a2).bind fun r0 => (bif (r0 != (0 : Int)) then (ret ((ByteArray.mk (List.toArray [])), r0)) else ((g33 a0).bind fun r1 => ((g34 (IntKind.wrap IntKind.u64 a1)).bind fun r2 => (bif ((decide ((ByteArray.size r1) ≤ (4611686018427387903 : Nat))) && (decide ((ByteArray.size r2) ≤ (4611686018427387903 : Nat)))) then ((g34 (IntKind.wrap IntKind.u64 ((List.length a2) : Int))).bind fun r3 => (bif ((decide ((ByteArray.size (r1 ++ r2)) ≤ (4611686018427387903 : Nat))) && (decide ((ByteArray.size r3) ≤ (4611686018427387903 : Nat)))) then ((s0 ((r1 ++ r2) ++ r3) (0 : Int) a0 a1 a2).bind ret) else none)) else none)))))
def s0c {β : Type} (g28 : transomref09_Check.G) (g33 : transomref03_Text.G) (g34 : transomref03_Uint.G) (g35 : transomref05_Put.G) (s0 : S0) (s1 : S1) (s2 : S2) (x0 : ByteArray) (x1 : Int) (x2 : ByteArray) (x3 : Int) (x4 : List D_api_Col) (ret : (ByteArray × Int) → Option β) : Option β := (bif (decide (x1 < ((List.length x4) : Int))) then (bif ((decide ((0 : Int) ≤ x1)) && (decide (x1 < ((List.length x4) : Int)))) then (bif (elem T_api_Col x4 x1).2.2.1 then ((s1 x0 x1 (1 : Int) x2 x3 x4 (elem T_api_Col x4 x1).1 (elem T_api_Col x4 x1).2.1 (elem T_api_Col x4 x1).2.2.1 (elem T_api_Col x4 x1).2.2.2.1.1 (elem T_api_Col x4 x1).2.2.2.1.2.1 (elem T_api_Col x4 x1).2.2.2.1.2.2.1 (elem T_api_Col x4 x1).2.2.2.1.2.2.2.1).bind ret) else ((s1 x0 x1 (0 : Int) x2 x3 x4 (elem T_api_Col x4 x1).1 (elem T_api_Col x4 x1).2.1 (elem T_api_Col x4 x1).2.2.1 (elem T_api_Col x4 x1).2.2.2.1.1 (elem T_api_Col x4 x1).2.2.2.1.2.1 (elem T_api_Col x4 x1).2.2.2.1.2.2.1 (elem T_api_Col x4 x1).2.2.2.1.2.2.2.1).bind ret)) else none) else (ret (x0, (0 : Int))))
def s1c {β : Type} (g28 : transomref09_Check.G) (g33 : transomref03_Text.G) (g34 : transomref03_Uint.G) (g35 : transomref05_Put.G) (s0 : S0) (s1 : S1) (s2 : S2) (x0 : ByteArray) (x1 : Int) (x2 : Int) (x3 : ByteArray) (x4 : Int) (x5 : List D_api_Col) (x6 : ByteArray) (x7 : Int) (x8 : Bool) (x9 : Int) (x10 : Int) (x11 : Int) (x12 : ByteArray) (ret : (ByteArray × Int) → Option β) : Option β := ((g35 x9 x10 x11 x12).bind fun r0 => ((g33 x6).bind fun r1 => (bif ((decide ((ByteArray.size x0) ≤ (4611686018427387903 : Nat))) && (decide ((ByteArray.size r1) ≤ (4611686018427387903 : Nat)))) then ((g34 (IntKind.wrap IntKind.u64 x7)).bind fun r2 => (bif ((decide ((ByteArray.size (x0 ++ r1)) ≤ (4611686018427387903 : Nat))) && (decide ((ByteArray.size r2) ≤ (4611686018427387903 : Nat)))) then (bif ((decide ((ByteArray.size ((x0 ++ r1) ++ r2)) ≤ (4611686018427387903 : Nat))) && true) then (bif ((decide ((ByteArray.size (((x0 ++ r1) ++ r2) ++ (ByteArray.mk (List.toArray (List.map (fun n => (UInt8.ofNat (Int.toNat n))) [x2]))))) ≤ (4611686018427387903 : Nat))) && (decide ((ByteArray.size r0.1) ≤ (4611686018427387903 : Nat)))) then ((s2 ((((x0 ++ r1) ++ r2) ++ (ByteArray.mk (List.toArray (List.map (fun n => (UInt8.ofNat (Int.toNat n))) [x2])))) ++ r0.1) x1 x3 x4 x5).bind ret) else none) else none) else none)) else none)))
def s2c {β : Type} (g28 : transomref09_Check.G) (g33 : transomref03_Text.G) (g34 : transomref03_Uint.G) (g35 : transomref05_Put.G) (s0 : S0) (s1 : S1) (s2 : S2) (x0 : ByteArray) (x1 : Int) (x2 : ByteArray) (x3 : Int) (x4 : List D_api_Col) (ret : (ByteArray × Int) → Option β) : Option β := ((s0 x0 (IntKind.wrap IntKind.i64 (x1 + (1 : Int))) x2 x3 x4).bind ret)
theorem c_bind {β : Type} {g28 : transomref09_Check.G} {g33 : transomref03_Text.G} {g34 : transomref03_Uint.G} {g35 : transomref05_Put.G} {s0 : S0} {s1 : S1} {s2 : S2} {a0 : ByteArray} {a1 : Int} {a2 : List D_api_Col} {ret : (ByteArray × Int) → Option β} : c g28 g33 g34 g35 s0 s1 s2 a0 a1 a2 ret = (c g28 g33 g34 g35 s0 s1 s2 a0 a1 a2 some).bind ret := by
  simp only [c, bif_bind, sum_bind, oa, os, on, ofs]
theorem s0c_bind {β : Type} {g28 : transomref09_Check.G} {g33 : transomref03_Text.G} {g34 : transomref03_Uint.G} {g35 : transomref05_Put.G} {s0 : S0} {s1 : S1} {s2 : S2} {x0 : ByteArray} {x1 : Int} {x2 : ByteArray} {x3 : Int} {x4 : List D_api_Col} {ret : (ByteArray × Int) → Option β} : s0c g28 g33 g34 g35 s0 s1 s2 x0 x1 x2 x3 x4 ret = (s0c g28 g33 g34 g35 s0 s1 s2 x0 x1 x2 x3 x4 some).bind ret := by
  simp only [s0c, bif_bind, sum_bind, oa, os, on, ofs]
theorem s1c_bind {β : Type} {g28 : transomref09_Check.G} {g33 : transomref03_Text.G} {g34 : transomref03_Uint.G} {g35 : transomref05_Put.G} {s0 : S0} {s1 : S1} {s2 : S2} {x0 : ByteArray} {x1 : Int} {x2 : Int} {x3 : ByteArray} {x4 : Int} {x5 : List D_api_Col} {x6 : ByteArray} {x7 : Int} {x8 : Bool} {x9 : Int} {x10 : Int} {x11 : Int} {x12 : ByteArray} {ret : (ByteArray × Int) → Option β} : s1c g28 g33 g34 g35 s0 s1 s2 x0 x1 x2 x3 x4 x5 x6 x7 x8 x9 x10 x11 x12 ret = (s1c g28 g33 g34 g35 s0 s1 s2 x0 x1 x2 x3 x4 x5 x6 x7 x8 x9 x10 x11 x12 some).bind ret := by
  simp only [s1c, bif_bind, sum_bind, oa, os, on, ofs]
theorem s2c_bind {β : Type} {g28 : transomref09_Check.G} {g33 : transomref03_Text.G} {g34 : transomref03_Uint.G} {g35 : transomref05_Put.G} {s0 : S0} {s1 : S1} {s2 : S2} {x0 : ByteArray} {x1 : Int} {x2 : ByteArray} {x3 : Int} {x4 : List D_api_Col} {ret : (ByteArray × Int) → Option β} : s2c g28 g33 g34 g35 s0 s1 s2 x0 x1 x2 x3 x4 ret = (s2c g28 g33 g34 g35 s0 s1 s2 x0 x1 x2 x3 x4 some).bind ret := by
  simp only [s2c, bif_bind, sum_bind, oa, os, on, ofs]
theorem ev {g28 : transomref09_Check.G} {g33 : transomref03_Text.G} {g34 : transomref03_Uint.G} {g35 : transomref05_Put.G} {s0 : S0} {s1 : S1} {s2 : S2} {a0 : ByteArray} {a1 : Int} {a2 : List D_api_Col} : evAt (env g28 g33 g34 g35 s0 s1 s2) [] [0] [.v (.agg [(.d .str a0), (.d (.int .i64) a1), (.d (.sl T_api_Col) a2)])] [] some = c g28 g33 g34 g35 s0 s1 s2 a0 a1 a2 (fun r => some ⟨.tup [(.one (.d .str r.1)), (.one (.d (.int .i64) r.2))], []⟩) := by
  kernel_rfl
theorem s0_ev {g28 : transomref09_Check.G} {g33 : transomref03_Text.G} {g34 : transomref03_Uint.G} {g35 : transomref05_Put.G} {s0 : S0} {s1 : S1} {s2 : S2} {x0 : ByteArray} {x1 : Int} {x2 : ByteArray} {x3 : Int} {x4 : List D_api_Col} : evAt (env g28 g33 g34 g35 s0 s1 s2) [4, 1, 0, 1, 1, 1] [1, 5, 6] [.v (.one (.ptr 0 0)), .v (.one (.d .str x0)), .v (.one (.d (.int .i64) x1))] [some (.box [(.d .str x2), (.d (.int .i64) x3), (.d (.sl T_api_Col) x4)])] some = s0c g28 g33 g34 g35 s0 s1 s2 x0 x1 x2 x3 x4 (fun r => some ⟨.tup [(.one (.d .str r.1)), (.one (.d (.int .i64) r.2))], []⟩) := by
  kernel_rfl
theorem s1_ev {g28 : transomref09_Check.G} {g33 : transomref03_Text.G} {g34 : transomref03_Uint.G} {g35 : transomref05_Put.G} {s0 : S0} {s1 : S1} {s2 : S2} {x0 : ByteArray} {x1 : Int} {x2 : Int} {x3 : ByteArray} {x4 : Int} {x5 : List D_api_Col} {x6 : ByteArray} {x7 : Int} {x8 : Bool} {x9 : Int} {x10 : Int} {x11 : Int} {x12 : ByteArray} : evAt (env g28 g33 g34 g35 s0 s1 s2) [1, 1, 1, 4, 0, 1, 5, 4, 1, 0, 1, 1, 1] [1, 5, 6, 7, 8] [.v (.one (.ptr 0 0)), .v (.one (.d .str x0)), .v (.one (.d (.int .i64) x1)), .v (.one (.ptr 1 0)), .v (.one (.d (.int .u8) x2))] [some (.box [(.d .str x3), (.d (.int .i64) x4), (.d (.sl T_api_Col) x5)]), some (.box [(.d .str x6), (.d (.int .i64) x7), (.d .bool x8), (.d (.int .i64) x9), (.d (.int .i64) x10), (.d (.int .u64) x11), (.d .str x12)])] some = s1c g28 g33 g34 g35 s0 s1 s2 x0 x1 x2 x3 x4 x5 x6 x7 x8 x9 x10 x11 x12 (fun r => some ⟨.tup [(.one (.d .str r.1)), (.one (.d (.int .i64) r.2))], []⟩) := by
  kernel_rfl
theorem s2_ev {g28 : transomref09_Check.G} {g33 : transomref03_Text.G} {g34 : transomref03_Uint.G} {g35 : transomref05_Put.G} {s0 : S0} {s1 : S1} {s2 : S2} {x0 : ByteArray} {x1 : Int} {x2 : ByteArray} {x3 : Int} {x4 : List D_api_Col} : evAt (env g28 g33 g34 g35 s0 s1 s2) [1, 1, 5, 4, 1, 0, 1, 1, 1] [1, 5, 6] [.v (.one (.ptr 0 0)), .v (.one (.d .str x0)), .v (.one (.d (.int .i64) x1))] [some (.box [(.d .str x2), (.d (.int .i64) x3), (.d (.sl T_api_Col) x4)])] some = s2c g28 g33 g34 g35 s0 s1 s2 x0 x1 x2 x3 x4 (fun r => some ⟨.tup [(.one (.d .str r.1)), (.one (.d (.int .i64) r.2))], []⟩) := by
  kernel_rfl
mutual
def s0 : Nat → ByteArray → Int → ByteArray → Int → (List D_api_Col) → Option (ByteArray × Int)
  | 0, _, _, _, _, _ => none
  | k + 1, x0, x1, x2, x3, x4 => s0c (transomref09_Check.f k) (transomref03_Text.f k) (transomref03_Uint.f k) (transomref05_Put.f k) (s0 k) (s1 k) (s2 k) x0 x1 x2 x3 x4 some
def s1 : Nat → ByteArray → Int → Int → ByteArray → Int → (List D_api_Col) → ByteArray → Int → Bool → Int → Int → Int → ByteArray → Option (ByteArray × Int)
  | 0, _, _, _, _, _, _, _, _, _, _, _, _, _ => none
  | k + 1, x0, x1, x2, x3, x4, x5, x6, x7, x8, x9, x10, x11, x12 => s1c (transomref09_Check.f k) (transomref03_Text.f k) (transomref03_Uint.f k) (transomref05_Put.f k) (s0 k) (s1 k) (s2 k) x0 x1 x2 x3 x4 x5 x6 x7 x8 x9 x10 x11 x12 some
def s2 : Nat → ByteArray → Int → ByteArray → Int → (List D_api_Col) → Option (ByteArray × Int)
  | 0, _, _, _, _, _ => none
  | k + 1, x0, x1, x2, x3, x4 => s2c (transomref09_Check.f k) (transomref03_Text.f k) (transomref03_Uint.f k) (transomref05_Put.f k) (s0 k) (s1 k) (s2 k) x0 x1 x2 x3 x4 some
end
def f (k : Nat) (a0 : ByteArray) (a1 : Int) (a2 : List D_api_Col) : Option (ByteArray × Int) := c (transomref09_Check.f k) (transomref03_Text.f k) (transomref03_Uint.f k) (transomref05_Put.f k) (s0 k) (s1 k) (s2 k) a0 a1 a2 some
theorem is {g28 : transomref09_Check.G} {g33 : transomref03_Text.G} {g34 : transomref03_Uint.G} {g35 : transomref05_Put.G} {s0 : S0} {s1 : S1} {s2 : S2} : FnIs (env g28 g33 g34 g35 s0 s1 s2) 15 f15 := ⟨func15, rfl, rfl, rfl, by decide⟩
theorem envok {g28 : transomref09_Check.G} {g33 : transomref03_Text.G} {g34 : transomref03_Uint.G} {g35 : transomref05_Put.G} {s0 : S0} {s1 : S1} {s2 : S2} (h28 : CtOK prog 28 (transomref09_Check.ct g28)) (h33 : CtOK prog 33 (transomref03_Text.ct g33)) (h34 : CtOK prog 34 (transomref03_Uint.ct g34)) (h35 : CtOK prog 35 (transomref05_Put.ct g35)) : EnvOK (env g28 g33 g34 g35 s0 s1 s2).toEnv := by
  intro f c h
  simp only [env] at h
  split at h
  · rename_i e; subst e; cases h; exact h28
  split at h
  · rename_i e; subst e; cases h; exact h33
  split at h
  · rename_i e; subst e; cases h; exact h34
  split at h
  · rename_i e; subst e; cases h; exact h35
  simp at h
noncomputable abbrev E (k : Nat) : FEnv := env (transomref09_Check.f k) (transomref03_Text.f k) (transomref03_Uint.f k) (transomref05_Put.f k) (s0 k) (s1 k) (s2 k)
theorem hE (k : Nat) : EnvOK (E k).toEnv := envok (transomref09_Check.ok k) (transomref03_Text.ok k) (transomref03_Uint.ok k) (transomref05_Put.ok k)
theorem segs_ok : ∀ k, ∀ s ∈ (E k).segs, SegOK (E k) f15 s
  | 0 => by
    intro s hs
    simp only [E, env, List.mem_cons, List.not_mem_nil, or_false] at hs
    rcases hs with rfl | rfl | rfl
    · intro tvs blks res h; exfalso; simp only [sg0] at h; split at h <;> simp [s0] at h
    · intro tvs blks res h; exfalso; simp only [sg1] at h; split at h <;> simp [s1] at h
    · intro tvs blks res h; exfalso; simp only [sg2] at h; split at h <;> simp [s2] at h
  | k + 1 => by
    intro s hs
    simp only [E, env, List.mem_cons, List.not_mem_nil, or_false] at hs
    rcases hs with rfl | rfl | rfl
    · refine seg_of_ev (E := E k) (hE k) ⟨is.rvs⟩ (segs_ok k) ?_
      intro tvs blks res h
      simp only [sg0] at h
      split at h
      · exact (s0_ev.trans s0c_bind).trans h
      · simp at h
    · refine seg_of_ev (E := E k) (hE k) ⟨is.rvs⟩ (segs_ok k) ?_
      intro tvs blks res h
      simp only [sg1] at h
      split at h
      · exact (s1_ev.trans s1c_bind).trans h
      · simp at h
    · refine seg_of_ev (E := E k) (hE k) ⟨is.rvs⟩ (segs_ok k) ?_
      intro tvs blks res h
      simp only [sg2] at h
      split at h
      · exact (s2_ev.trans s2c_bind).trans h
      · simp at h
theorem ok (k : Nat) : CtOK prog 15 (ct (f k)) := by
  refine ct_of_ev (E := E k) is (hE k) (segs_ok k) rfl ?_
  intro tvs blks res h
  simp only [ct] at h
  split at h
  · exact (ev.trans c_bind).trans h
  · simp at h
end transomref09_Put
namespace transomref03_ReadUint
abbrev G : Type := ByteArray → Option (Int × ByteArray × Int)
def ct (g : G) : Ct where
  nin := 0
  mv := []
  F := fun tvs blks {β} K => match tvs, blks with
    | [.v (.one (.d .str a0))], [] => (g a0).bind fun r => K ⟨.tup [(.one (.d (.int .u64) r.1)), (.one (.d .str r.2.1)), (.one (.d (.int .i64) r.2.2))], []⟩
    | _, _ => none
  legit := fun _ _ K _ h => by split at h; exact (legit1 K h :); simp at h
abbrev S0 : Type := ByteArray → Int → Int → Option (Int × ByteArray × Int)
abbrev S1 : Type := ByteArray → Int → Int → Int → Bool → Option (Int × ByteArray × Int)
abbrev S2 : Type := ByteArray → Int → Int → Int → Option (Int × ByteArray × Int)
abbrev S3 : Type := ByteArray → Int → Int → Bool → Option (Int × ByteArray × Int)
abbrev S4 : Type := ByteArray → Int → Int → Option (Int × ByteArray × Int)
abbrev S5 : Type := ByteArray → Int → Int → Option (Int × ByteArray × Int)
def sg0 (g : S0) : Seg where
  path := [4, 1, 0, 1, 1]
  prep := []
  keep := [0, 5, 6]
  F := fun tvs blks {β} K => match tvs, blks with
    | [.v (.one (.d .str x0)), .v (.one (.d (.int .u64) x1)), .v (.one (.d (.int .i64) x2))], [] => (g x0 x1 x2).bind fun r => K ⟨.tup [(.one (.d (.int .u64) r.1)), (.one (.d .str r.2.1)), (.one (.d (.int .i64) r.2.2))], []⟩
    | _, _ => none
  legit := fun _ _ K _ h => by split at h; exact (legit1 K h :); simp at h
def sg1 (g : S1) : Seg where
  path := [1, 0, 1, 1, 4, 0, 1, 5, 4, 1, 0, 1, 1]
  prep := []
  keep := [0, 5, 6, 7, 25]
  F := fun tvs blks {β} K => match tvs, blks with
    | [.v (.one (.d .str x0)), .v (.one (.d (.int .u64) x1)), .v (.one (.d (.int .i64) x2)), .v (.one (.d (.int .u64) x3)), .v (.one (.d .bool x4))], [] => (g x0 x1 x2 x3 x4).bind fun r => K ⟨.tup [(.one (.d (.int .u64) r.1)), (.one (.d .str r.2.1)), (.one (.d (.int .i64) r.2.2))], []⟩
    | _, _ => none
  legit := fun _ _ K _ h => by split at h; exact (legit1 K h :); simp at h
def sg2 (g : S2) : Seg where
  path := [1, 1, 1, 4, 0, 1, 5, 4, 1, 0, 1, 1]
  prep := []
  keep := [0, 5, 6, 7]
  F := fun tvs blks {β} K => match tvs, blks with
    | [.v (.one (.d .str x0)), .v (.one (.d (.int .u64) x1)), .v (.one (.d (.int .i64) x2)), .v (.one (.d (.int .u64) x3))], [] => (g x0 x1 x2 x3).bind fun r => K ⟨.tup [(.one (.d (.int .u64) r.1)), (.one (.d .str r.2.1)), (.one (.d (.int .i64) r.2.2))], []⟩
    | _, _ => none
  legit := fun _ _ K _ h => by split at h; exact (legit1 K h :); simp at h
def sg3 (g : S3) : Seg where
  path := [1, 0, 2, 1, 1, 1, 1, 1, 4, 0, 1, 5, 4, 1, 0, 1, 1]
  prep := []
  keep := [0, 5, 6, 41]
  F := fun tvs blks {β} K => match tvs, blks with
    | [.v (.one (.d .str x0)), .v (.one (.d (.int .u64) x1)), .v (.one (.d (.int .i64) x2)), .v (.one (.d .bool x3))], [] => (g x0 x1 x2 x3).bind fun r => K ⟨.tup [(.one (.d (.int .u64) r.1)), (.one (.d .str r.2.1)), (.one (.d (.int .i64) r.2.2))], []⟩
    | _, _ => none
  legit := fun _ _ K _ h => by split at h; exact (legit1 K h :); simp at h
def sg4 (g : S4) : Seg where
  path := [1, 2, 1, 1, 1, 1, 1, 4, 0, 1, 5, 4, 1, 0, 1, 1]
  prep := []
  keep := [0, 5, 6]
  F := fun tvs blks {β} K => match tvs, blks with
    | [.v (.one (.d .str x0)), .v (.one (.d (.int .u64) x1)), .v (.one (.d (.int .i64) x2))], [] => (g x0 x1 x2).bind fun r => K ⟨.tup [(.one (.d (.int .u64) r.1)), (.one (.d .str r.2.1)), (.one (.d (.int .i64) r.2.2))], []⟩
    | _, _ => none
  legit := fun _ _ K _ h => by split at h; exact (legit1 K h :); simp at h
def sg5 (g : S5) : Seg where
  path := [1, 1, 5, 4, 1, 0, 1, 1]
  prep := []
  keep := [0, 5, 6]
  F := fun tvs blks {β} K => match tvs, blks with
    | [.v (.one (.d .str x0)), .v (.one (.d (.int .u64) x1)), .v (.one (.d (.int .i64) x2))], [] => (g x0 x1 x2).bind fun r => K ⟨.tup [(.one (.d (.int .u64) r.1)), (.one (.d .str r.2.1)), (.one (.d (.int .i64) r.2.2))], []⟩
    | _, _ => none
  legit := fun _ _ K _ h => by split at h; exact (legit1 K h :); simp at h
noncomputable def env  (s0 : S0) (s1 : S1) (s2 : S2) (s3 : S3) (s4 : S4) (s5 : S5) : FEnv := { P := prog, ct := fun m => none, N := 47, body := f43.body.getD .skip, rvs := [.tmp 2, .tmp 3, .tmp 4], rts := [47, 9, 3], nin := 0, rmv := [], segs := [sg0 s0, sg1 s1, sg2 s2, sg3 s3, sg4 s4, sg5 s5] }
def c {β : Type}  (s0 : S0) (s1 : S1) (s2 : S2) (s3 : S3) (s4 : S4) (s5 : S5) (a0 : ByteArray) (ret : (Int × ByteArray × Int) → Option β) : Option β := ((s0 a0 (0 : Int) (0 : Int)).bind ret)
def s0c {β : Type}  (s0 : S0) (s1 : S1) (s2 : S2) (s3 : S3) (s4 : S4) (s5 : S5) (x0 : ByteArray) (x1 : Int) (x2 : Int) (ret : (Int × ByteArray × Int) → Option β) : Option β := (bif (decide (x2 < (10 : Int))) then (bif (decide (x2 ≥ ((ByteArray.size x0) : Int))) then (ret ((0 : Int), (ByteArray.mk (List.toArray [])), (3 : Int))) else (bif ((decide ((0 : Int) ≤ x2)) && (decide (x2 < ((ByteArray.size x0) : Int)))) then (bif (x2 == (9 : Int)) then ((s1 x0 x1 x2 (IntKind.wrap IntKind.u64 (bt x0 x2)) (decide ((IntKind.wrap IntKind.u64 (bt x0 x2)) > (1 : Int)))).bind ret) else ((s1 x0 x1 x2 (IntKind.wrap IntKind.u64 (bt x0 x2)) false).bind ret)) else none)) else (ret ((0 : Int), (ByteArray.mk (List.toArray [])), (4 : Int))))
def s1c {β : Type}  (s0 : S0) (s1 : S1) (s2 : S2) (s3 : S3) (s4 : S4) (s5 : S5) (x0 : ByteArray) (x1 : Int) (x2 : Int) (x3 : Int) (x4 : Bool) (ret : (Int × ByteArray × Int) → Option β) : Option β := (bif x4 then (ret ((0 : Int), (ByteArray.mk (List.toArray [])), (4 : Int))) else ((s2 x0 x1 x2 x3).bind ret))
def s2c {β : Type}  (s0 : S0) (s1 : S1) (s2 : S2) (s3 : S3) (s4 : S4) (s5 : S5) (x0 : ByteArray) (x1 : Int) (x2 : Int) (x3 : Int) (ret : (Int × ByteArray × Int) → Option β) : Option β := (bif (decide ((0 : Int) ≤ (IntKind.wrap IntKind.u64 (IntKind.wrap IntKind.i64 ((7 : Int) * x2))))) then (bif (decide (x3 < (128 : Int))) then (bif (x3 == (0 : Int)) then ((s3 x0 (IntKind.wrap IntKind.u64 ((BitVec.toNat ((BitVec.ofInt (64 : Nat) x1) ||| (BitVec.ofInt (64 : Nat) (IntKind.wrap IntKind.u64 ((Int.tmod x3 (128 : Int)) * ((2 : Int) ^ (Min.min (Int.toNat (IntKind.wrap IntKind.u64 (IntKind.wrap IntKind.i64 ((7 : Int) * x2)))) (64 : Nat)))))))) : Int)) x2 (decide (x2 > (0 : Int)))).bind ret) else ((s3 x0 (IntKind.wrap IntKind.u64 ((BitVec.toNat ((BitVec.ofInt (64 : Nat) x1) ||| (BitVec.ofInt (64 : Nat) (IntKind.wrap IntKind.u64 ((Int.tmod x3 (128 : Int)) * ((2 : Int) ^ (Min.min (Int.toNat (IntKind.wrap IntKind.u64 (IntKind.wrap IntKind.i64 ((7 : Int) * x2)))) (64 : Nat)))))))) : Int)) x2 false).bind ret)) else ((s5 x0 (IntKind.wrap IntKind.u64 ((BitVec.toNat ((BitVec.ofInt (64 : Nat) x1) ||| (BitVec.ofInt (64 : Nat) (IntKind.wrap IntKind.u64 ((Int.tmod x3 (128 : Int)) * ((2 : Int) ^ (Min.min (Int.toNat (IntKind.wrap IntKind.u64 (IntKind.wrap IntKind.i64 ((7 : Int) * x2)))) (64 : Nat)))))))) : Int)) x2).bind ret)) else none)
def s3c {β : Type}  (s0 : S0) (s1 : S1) (s2 : S2) (s3 : S3) (s4 : S4) (s5 : S5) (x0 : ByteArray) (x1 : Int) (x2 : Int) (x3 : Bool) (ret : (Int × ByteArray × Int) → Option β) : Option β := (bif x3 then (ret ((0 : Int), (ByteArray.mk (List.toArray [])), (4 : Int))) else ((s4 x0 x1 x2).bind ret))
def s4c {β : Type}  (s0 : S0) (s1 : S1) (s2 : S2) (s3 : S3) (s4 : S4) (s5 : S5) (x0 : ByteArray) (x1 : Int) (x2 : Int) (ret : (Int × ByteArray × Int) → Option β) : Option β := (bif (((decide ((0 : Int) ≤ (IntKind.wrap IntKind.i64 (x2 + (1 : Int))))) && (decide ((IntKind.wrap IntKind.i64 (x2 + (1 : Int))) ≤ ((ByteArray.size x0) : Int)))) && (decide (((ByteArray.size x0) : Int) ≤ ((ByteArray.size x0) : Int)))) then (ret (x1, (ByteArray.extract x0 (Int.toNat (IntKind.wrap IntKind.i64 (x2 + (1 : Int)))) (Int.toNat ((ByteArray.size x0) : Int))), (0 : Int))) else none)
def s5c {β : Type}  (s0 : S0) (s1 : S1) (s2 : S2) (s3 : S3) (s4 : S4) (s5 : S5) (x0 : ByteArray) (x1 : Int) (x2 : Int) (ret : (Int × ByteArray × Int) → Option β) : Option β := ((s0 x0 x1 (IntKind.wrap IntKind.i64 (x2 + (1 : Int)))).bind ret)
theorem c_bind {β : Type}  {s0 : S0} {s1 : S1} {s2 : S2} {s3 : S3} {s4 : S4} {s5 : S5} {a0 : ByteArray} {ret : (Int × ByteArray × Int) → Option β} : c  s0 s1 s2 s3 s4 s5 a0 ret = (c  s0 s1 s2 s3 s4 s5 a0 some).bind ret := by
  simp only [c, bif_bind, sum_bind, oa, os, on, ofs]
theorem s0c_bind {β : Type}  {s0 : S0} {s1 : S1} {s2 : S2} {s3 : S3} {s4 : S4} {s5 : S5} {x0 : ByteArray} {x1 : Int} {x2 : Int} {ret : (Int × ByteArray × Int) → Option β} : s0c  s0 s1 s2 s3 s4 s5 x0 x1 x2 ret = (s0c  s0 s1 s2 s3 s4 s5 x0 x1 x2 some).bind ret := by
  simp only [s0c, bif_bind, sum_bind, oa, os, on, ofs]
theorem s1c_bind {β : Type}  {s0 : S0} {s1 : S1} {s2 : S2} {s3 : S3} {s4 : S4} {s5 : S5} {x0 : ByteArray} {x1 : Int} {x2 : Int} {x3 : Int} {x4 : Bool} {ret : (Int × ByteArray × Int) → Option β} : s1c  s0 s1 s2 s3 s4 s5 x0 x1 x2 x3 x4 ret = (s1c  s0 s1 s2 s3 s4 s5 x0 x1 x2 x3 x4 some).bind ret := by
  simp only [s1c, bif_bind, sum_bind, oa, os, on, ofs]
theorem s2c_bind {β : Type}  {s0 : S0} {s1 : S1} {s2 : S2} {s3 : S3} {s4 : S4} {s5 : S5} {x0 : ByteArray} {x1 : Int} {x2 : Int} {x3 : Int} {ret : (Int × ByteArray × Int) → Option β} : s2c  s0 s1 s2 s3 s4 s5 x0 x1 x2 x3 ret = (s2c  s0 s1 s2 s3 s4 s5 x0 x1 x2 x3 some).bind ret := by
  simp only [s2c, bif_bind, sum_bind, oa, os, on, ofs]
theorem s3c_bind {β : Type}  {s0 : S0} {s1 : S1} {s2 : S2} {s3 : S3} {s4 : S4} {s5 : S5} {x0 : ByteArray} {x1 : Int} {x2 : Int} {x3 : Bool} {ret : (Int × ByteArray × Int) → Option β} : s3c  s0 s1 s2 s3 s4 s5 x0 x1 x2 x3 ret = (s3c  s0 s1 s2 s3 s4 s5 x0 x1 x2 x3 some).bind ret := by
  simp only [s3c, bif_bind, sum_bind, oa, os, on, ofs]
theorem s4c_bind {β : Type}  {s0 : S0} {s1 : S1} {s2 : S2} {s3 : S3} {s4 : S4} {s5 : S5} {x0 : ByteArray} {x1 : Int} {x2 : Int} {ret : (Int × ByteArray × Int) → Option β} : s4c  s0 s1 s2 s3 s4 s5 x0 x1 x2 ret = (s4c  s0 s1 s2 s3 s4 s5 x0 x1 x2 some).bind ret := by
  simp only [s4c, bif_bind, sum_bind, oa, os, on, ofs]
theorem s5c_bind {β : Type}  {s0 : S0} {s1 : S1} {s2 : S2} {s3 : S3} {s4 : S4} {s5 : S5} {x0 : ByteArray} {x1 : Int} {x2 : Int} {ret : (Int × ByteArray × Int) → Option β} : s5c  s0 s1 s2 s3 s4 s5 x0 x1 x2 ret = (s5c  s0 s1 s2 s3 s4 s5 x0 x1 x2 some).bind ret := by
  simp only [s5c, bif_bind, sum_bind, oa, os, on, ofs]
theorem ev  {s0 : S0} {s1 : S1} {s2 : S2} {s3 : S3} {s4 : S4} {s5 : S5} {a0 : ByteArray} : evAt (env  s0 s1 s2 s3 s4 s5) [] [0] [.v (.one (.d .str a0))] [] some = c  s0 s1 s2 s3 s4 s5 a0 (fun r => some ⟨.tup [(.one (.d (.int .u64) r.1)), (.one (.d .str r.2.1)), (.one (.d (.int .i64) r.2.2))], []⟩) := by
  kernel_rfl
theorem s0_ev  {s0 : S0} {s1 : S1} {s2 : S2} {s3 : S3} {s4 : S4} {s5 : S5} {x0 : ByteArray} {x1 : Int} {x2 : Int} : evAt (env  s0 s1 s2 s3 s4 s5) [4, 1, 0, 1, 1] [0, 5, 6] [.v (.one (.d .str x0)), .v (.one (.d (.int .u64) x1)), .v (.one (.d (.int .i64) x2))] [] some = s0c  s0 s1 s2 s3 s4 s5 x0 x1 x2 (fun r => some ⟨.tup [(.one (.d (.int .u64) r.1)), (.one (.d .str r.2.1)), (.one (.d (.int .i64) r.2.2))], []⟩) := by
  kernel_rfl
theorem s1_ev  {s0 : S0} {s1 : S1} {s2 : S2} {s3 : S3} {s4 : S4} {s5 : S5} {x0 : ByteArray} {x1 : Int} {x2 : Int} {x3 : Int} {x4 : Bool} : evAt (env  s0 s1 s2 s3 s4 s5) [1, 0, 1, 1, 4, 0, 1, 5, 4, 1, 0, 1, 1] [0, 5, 6, 7, 25] [.v (.one (.d .str x0)), .v (.one (.d (.int .u64) x1)), .v (.one (.d (.int .i64) x2)), .v (.one (.d (.int .u64) x3)), .v (.one (.d .bool x4))] [] some = s1c  s0 s1 s2 s3 s4 s5 x0 x1 x2 x3 x4 (fun r => some ⟨.tup [(.one (.d (.int .u64) r.1)), (.one (.d .str r.2.1)), (.one (.d (.int .i64) r.2.2))], []⟩) := by
  kernel_rfl
theorem s2_ev  {s0 : S0} {s1 : S1} {s2 : S2} {s3 : S3} {s4 : S4} {s5 : S5} {x0 : ByteArray} {x1 : Int} {x2 : Int} {x3 : Int} : evAt (env  s0 s1 s2 s3 s4 s5) [1, 1, 1, 4, 0, 1, 5, 4, 1, 0, 1, 1] [0, 5, 6, 7] [.v (.one (.d .str x0)), .v (.one (.d (.int .u64) x1)), .v (.one (.d (.int .i64) x2)), .v (.one (.d (.int .u64) x3))] [] some = s2c  s0 s1 s2 s3 s4 s5 x0 x1 x2 x3 (fun r => some ⟨.tup [(.one (.d (.int .u64) r.1)), (.one (.d .str r.2.1)), (.one (.d (.int .i64) r.2.2))], []⟩) := by
  kernel_rfl
theorem s3_ev  {s0 : S0} {s1 : S1} {s2 : S2} {s3 : S3} {s4 : S4} {s5 : S5} {x0 : ByteArray} {x1 : Int} {x2 : Int} {x3 : Bool} : evAt (env  s0 s1 s2 s3 s4 s5) [1, 0, 2, 1, 1, 1, 1, 1, 4, 0, 1, 5, 4, 1, 0, 1, 1] [0, 5, 6, 41] [.v (.one (.d .str x0)), .v (.one (.d (.int .u64) x1)), .v (.one (.d (.int .i64) x2)), .v (.one (.d .bool x3))] [] some = s3c  s0 s1 s2 s3 s4 s5 x0 x1 x2 x3 (fun r => some ⟨.tup [(.one (.d (.int .u64) r.1)), (.one (.d .str r.2.1)), (.one (.d (.int .i64) r.2.2))], []⟩) := by
  kernel_rfl
theorem s4_ev  {s0 : S0} {s1 : S1} {s2 : S2} {s3 : S3} {s4 : S4} {s5 : S5} {x0 : ByteArray} {x1 : Int} {x2 : Int} : evAt (env  s0 s1 s2 s3 s4 s5) [1, 2, 1, 1, 1, 1, 1, 4, 0, 1, 5, 4, 1, 0, 1, 1] [0, 5, 6] [.v (.one (.d .str x0)), .v (.one (.d (.int .u64) x1)), .v (.one (.d (.int .i64) x2))] [] some = s4c  s0 s1 s2 s3 s4 s5 x0 x1 x2 (fun r => some ⟨.tup [(.one (.d (.int .u64) r.1)), (.one (.d .str r.2.1)), (.one (.d (.int .i64) r.2.2))], []⟩) := by
  kernel_rfl
theorem s5_ev  {s0 : S0} {s1 : S1} {s2 : S2} {s3 : S3} {s4 : S4} {s5 : S5} {x0 : ByteArray} {x1 : Int} {x2 : Int} : evAt (env  s0 s1 s2 s3 s4 s5) [1, 1, 5, 4, 1, 0, 1, 1] [0, 5, 6] [.v (.one (.d .str x0)), .v (.one (.d (.int .u64) x1)), .v (.one (.d (.int .i64) x2))] [] some = s5c  s0 s1 s2 s3 s4 s5 x0 x1 x2 (fun r => some ⟨.tup [(.one (.d (.int .u64) r.1)), (.one (.d .str r.2.1)), (.one (.d (.int .i64) r.2.2))], []⟩) := by
  kernel_rfl
mutual
def s0 : Nat → ByteArray → Int → Int → Option (Int × ByteArray × Int)
  | 0, _, _, _ => none
  | k + 1, x0, x1, x2 => s0c  (s0 k) (s1 k) (s2 k) (s3 k) (s4 k) (s5 k) x0 x1 x2 some
def s1 : Nat → ByteArray → Int → Int → Int → Bool → Option (Int × ByteArray × Int)
  | 0, _, _, _, _, _ => none
  | k + 1, x0, x1, x2, x3, x4 => s1c  (s0 k) (s1 k) (s2 k) (s3 k) (s4 k) (s5 k) x0 x1 x2 x3 x4 some
def s2 : Nat → ByteArray → Int → Int → Int → Option (Int × ByteArray × Int)
  | 0, _, _, _, _ => none
  | k + 1, x0, x1, x2, x3 => s2c  (s0 k) (s1 k) (s2 k) (s3 k) (s4 k) (s5 k) x0 x1 x2 x3 some
def s3 : Nat → ByteArray → Int → Int → Bool → Option (Int × ByteArray × Int)
  | 0, _, _, _, _ => none
  | k + 1, x0, x1, x2, x3 => s3c  (s0 k) (s1 k) (s2 k) (s3 k) (s4 k) (s5 k) x0 x1 x2 x3 some
def s4 : Nat → ByteArray → Int → Int → Option (Int × ByteArray × Int)
  | 0, _, _, _ => none
  | k + 1, x0, x1, x2 => s4c  (s0 k) (s1 k) (s2 k) (s3 k) (s4 k) (s5 k) x0 x1 x2 some
def s5 : Nat → ByteArray → Int → Int → Option (Int × ByteArray × Int)
  | 0, _, _, _ => none
  | k + 1, x0, x1, x2 => s5c  (s0 k) (s1 k) (s2 k) (s3 k) (s4 k) (s5 k) x0 x1 x2 some
end
def f (k : Nat) (a0 : ByteArray) : Option (Int × ByteArray × Int) := c  (s0 k) (s1 k) (s2 k) (s3 k) (s4 k) (s5 k) a0 some
theorem is  {s0 : S0} {s1 : S1} {s2 : S2} {s3 : S3} {s4 : S4} {s5 : S5} : FnIs (env  s0 s1 s2 s3 s4 s5) 43 f43 := ⟨func43, rfl, rfl, rfl, by decide⟩
theorem envok  {s0 : S0} {s1 : S1} {s2 : S2} {s3 : S3} {s4 : S4} {s5 : S5}  : EnvOK (env  s0 s1 s2 s3 s4 s5).toEnv := by
  intro f c h
  simp only [env] at h
  simp at h
noncomputable abbrev E (k : Nat) : FEnv := env  (s0 k) (s1 k) (s2 k) (s3 k) (s4 k) (s5 k)
theorem hE (k : Nat) : EnvOK (E k).toEnv := envok 
theorem segs_ok : ∀ k, ∀ s ∈ (E k).segs, SegOK (E k) f43 s
  | 0 => by
    intro s hs
    simp only [E, env, List.mem_cons, List.not_mem_nil, or_false] at hs
    rcases hs with rfl | rfl | rfl | rfl | rfl | rfl
    · intro tvs blks res h; exfalso; simp only [sg0] at h; split at h <;> simp [s0] at h
    · intro tvs blks res h; exfalso; simp only [sg1] at h; split at h <;> simp [s1] at h
    · intro tvs blks res h; exfalso; simp only [sg2] at h; split at h <;> simp [s2] at h
    · intro tvs blks res h; exfalso; simp only [sg3] at h; split at h <;> simp [s3] at h
    · intro tvs blks res h; exfalso; simp only [sg4] at h; split at h <;> simp [s4] at h
    · intro tvs blks res h; exfalso; simp only [sg5] at h; split at h <;> simp [s5] at h
  | k + 1 => by
    intro s hs
    simp only [E, env, List.mem_cons, List.not_mem_nil, or_false] at hs
    rcases hs with rfl | rfl | rfl | rfl | rfl | rfl
    · refine seg_of_ev (E := E k) (hE k) ⟨is.rvs⟩ (segs_ok k) ?_
      intro tvs blks res h
      simp only [sg0] at h
      split at h
      · exact (s0_ev.trans s0c_bind).trans h
      · simp at h
    · refine seg_of_ev (E := E k) (hE k) ⟨is.rvs⟩ (segs_ok k) ?_
      intro tvs blks res h
      simp only [sg1] at h
      split at h
      · exact (s1_ev.trans s1c_bind).trans h
      · simp at h
    · refine seg_of_ev (E := E k) (hE k) ⟨is.rvs⟩ (segs_ok k) ?_
      intro tvs blks res h
      simp only [sg2] at h
      split at h
      · exact (s2_ev.trans s2c_bind).trans h
      · simp at h
    · refine seg_of_ev (E := E k) (hE k) ⟨is.rvs⟩ (segs_ok k) ?_
      intro tvs blks res h
      simp only [sg3] at h
      split at h
      · exact (s3_ev.trans s3c_bind).trans h
      · simp at h
    · refine seg_of_ev (E := E k) (hE k) ⟨is.rvs⟩ (segs_ok k) ?_
      intro tvs blks res h
      simp only [sg4] at h
      split at h
      · exact (s4_ev.trans s4c_bind).trans h
      · simp at h
    · refine seg_of_ev (E := E k) (hE k) ⟨is.rvs⟩ (segs_ok k) ?_
      intro tvs blks res h
      simp only [sg5] at h
      split at h
      · exact (s5_ev.trans s5c_bind).trans h
      · simp at h
theorem ok (k : Nat) : CtOK prog 43 (ct (f k)) := by
  refine ct_of_ev (E := E k) is (hE k) (segs_ok k) rfl ?_
  intro tvs blks res h
  simp only [ct] at h
  split at h
  · exact (ev.trans c_bind).trans h
  · simp at h
end transomref03_ReadUint
end Go.Proofs.YtddlebbjaadbeaaGreatDoor.Aev
